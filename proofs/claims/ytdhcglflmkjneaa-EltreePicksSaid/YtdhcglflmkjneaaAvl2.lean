/- What the functions of this layer do, proved operation by operation, for all arguments, under the conditions that each theorem states. -/
import Derived.Test.YtdhcglflmkjneaaProg
import Derived.Test.YtdhcglflmkjneaaAvl1
namespace Go.Proofs.Ytdhcglflmkjneaa
open Go V
set_option linter.unusedVariables false
set_option linter.unusedSimpArgs false

theorem bd_small {t : T} (h : t.Sm) : t.Bd := by unfold T.Sm T.Bd at *; omega
theorem bd_mk2 {b : Nat} {x : It} {l r : T} (hl : l.Sm) (hr : r.Sm) : (mk b x l r).Bd := by
  have e1 : (mk b x l r).hgt = 1 + max l.hgt r.hgt := rfl
  have e2 : (mk b x l r).cnt = 1 + l.cnt + r.cnt := rfl
  unfold T.Sm T.Bd at *; omega
theorem smR {t : T} (h : t.Right) (hc : t.cnt ≤ 1000) : t.Sm := by have := h.pos; unfold T.Sm; omega

set_option maxHeartbeats 4000000 in
set_option maxRecDepth 100000 in
theorem turn0_spec (b : Nat) (x m : It) (h n : Int) (by_ : Nat) (y my : It) (hy ny : Int) (p q s : T) (hp : p.Sm) (hq : q.Sm) (hs_ : s.Sm) (w : World) (hs : HS w (feet [blk b [(u_ x.ka), (i_ x.ki), (u_ x.va), (i_ x.vi), (p_ by_), (.pointer (T.ptr s)), (u_ m.ka), (i_ m.ki), (u_ m.va), (i_ m.vi), (i_ h), (i_ n)] 92, treeI 92 (T.node by_ y my hy ny p q), treeI 92 s]) [blk b [(u_ x.ka), (i_ x.ki), (u_ x.va), (i_ x.vi), (p_ by_), (.pointer (T.ptr s)), (u_ m.ka), (i_ m.ki), (u_ m.va), (i_ m.vi), (i_ h), (i_ n)] 92, treeI 92 (T.node by_ y my hy ny p q), treeI 92 s] w) :
    Calls Try.prog 67 #[(p_ b), (i_ 0)] w fun e w' => ∃ zz, e = .returned ((fun (zt : T) => (.pointer (T.ptr zt))) zz) ∧ (fun (zt : T) => zt = mk by_ y p (mk b x q s)) zz ∧ Turn [blk b [(u_ x.ka), (i_ x.ki), (u_ x.va), (i_ x.vi), (p_ by_), (.pointer (T.ptr s)), (u_ m.ka), (i_ m.ki), (u_ m.va), (i_ m.vi), (i_ h), (i_ n)] 92, treeI 92 (T.node by_ y my hy ny p q), treeI 92 s] ((fun (zt : T) => [treeI 92 zt]) zz) w w' := by
  refine calls_of (args := [(p_ b), (i_ 0)]) (penv [(p_ b), (i_ 0)]) (feet [blk b [(u_ x.ka), (i_ x.ki), (u_ x.va), (i_ x.vi), (p_ by_), (.pointer (T.ptr s)), (u_ m.ka), (i_ m.ki), (u_ m.va), (i_ m.vi), (i_ h), (i_ n)] 92, treeI 92 (T.node by_ y my hy ny p q), treeI 92 s]) [blk b [(u_ x.ka), (i_ x.ki), (u_ x.va), (i_ x.vi), (p_ by_), (.pointer (T.ptr s)), (u_ m.ka), (i_ m.ki), (u_ m.va), (i_ m.vi), (i_ h), (i_ n)] 92, treeI 92 (T.node by_ y my hy ny p q), treeI 92 s] Try.func67 rfl rfl (look_penv _) hs ?_
  refine A.norm [(0, (p_ b)), (1, (i_ 0))] [blk b [(u_ x.ka), (i_ x.ki), (u_ x.va), (i_ x.vi), (p_ by_), (.pointer (T.ptr s)), (u_ m.ka), (i_ m.ki), (u_ m.va), (i_ m.vi), (i_ h), (i_ n)] 92, treeI 92 (T.node by_ y my hy ny p q), treeI 92 s] (by exact ⟨rfl, rfl, trivial⟩) rfl ?_
  refine A.seq ?_
  refine A.region (A.goA [.p] [(0, (p_ b)), (1, (i_ 0)), (4, n_)] [] T0 (by kernel_rfl) trivial ?_)
  refine A.tn ?_
  refine A.seq ?_
  refine A.region (A.goA [.p, .p, .p, .p, .p, .ld 0, .p] [(0, (p_ b)), (1, (i_ 0)), (4, n_), (5, (p_ by_))] [b] T0 (by kernel_rfl) trivial ?_)
  refine A.tn ?_
  refine A.seq ?_
  refine A.reshape [1] (fun _ : Unit => True) (fun _ => [blk by_ [(u_ y.ka), (i_ y.ki), (u_ y.va), (i_ y.vi), (.pointer (T.ptr p)), (.pointer (T.ptr q)), (u_ my.ka), (i_ my.ki), (u_ my.va), (i_ my.vi), (i_ hy), (i_ ny)] 92, treeI 92 p, treeI 92 q]) (fun _ => [blk by_ [(u_ y.ka), (i_ y.ki), (u_ y.va), (i_ y.vi), (.pointer (T.ptr p)), (.pointer (T.ptr q)), (u_ my.ka), (i_ my.ki), (u_ my.va), (i_ my.vi), (i_ hy), (i_ ny)] 92, treeI 92 p, treeI 92 q, blk b [(u_ x.ka), (i_ x.ki), (u_ x.va), (i_ x.vi), (p_ by_), (.pointer (T.ptr s)), (u_ m.ka), (i_ m.ki), (u_ m.va), (i_ m.vi), (i_ h), (i_ n)] 92, treeI 92 s]) rfl (fun w hs => tree_open hs) (fun _ => rfl) (fun _ _ => ?_)
  refine A.draw2 [12] 13 (by kernel_rfl) ?_
  refine A.drawP 1 [.p, .p, .p, .p, .p, .p, .p, .p, .ld 0, .p, .p, .p] [0, 1, 2, 3, 4, 5, 6, 7, 8, 9, 10, 11] [(0, (p_ b)), (1, (i_ 0)), (4, n_), (5, (p_ by_)), (20, (.pointer (T.ptr q))), (23, (q_ b 4))] [by_] T0 (by kernel_rfl) trivial ?_
  refine A.only2 12 rfl (by kernel_rfl) (A.store 3 (vs := [(.pointer (T.ptr q))]) [blk by_ [(u_ y.ka), (i_ y.ki), (u_ y.va), (i_ y.vi), (.pointer (T.ptr p)), (.pointer (T.ptr q)), (u_ my.ka), (i_ my.ki), (u_ my.va), (i_ my.vi), (i_ hy), (i_ ny)] 92, treeI 92 p, treeI 92 q, blk b [(u_ x.ka), (i_ x.ki), (u_ x.va), (i_ x.vi), (.pointer (T.ptr q)), (.pointer (T.ptr s)), (u_ m.ka), (i_ m.ki), (u_ m.va), (i_ m.vi), (i_ h), (i_ n)] 92, treeI 92 s] (by kernel_rfl) rfl rfl rfl rfl (by kernel_rfl) rfl rfl (by kernel_rfl) rfl ?_)
  refine A.stage ?_
  refine A.fin2 (by kernel_rfl) ?_
  refine A.sub [(0, (p_ b)), (1, (i_ 0)), (4, n_), (5, (p_ by_))] (by exact ⟨rfl, rfl, rfl, rfl, trivial⟩) ?_
  refine A.tn ?_
  refine A.seq ?_
  refine A.region (A.goAS [.p, .p, .p, .p, .p, .p, .p, .st 0] [(0, (p_ b)), (1, (i_ 0)), (4, n_), (5, (p_ by_))] [blk by_ [(u_ y.ka), (i_ y.ki), (u_ y.va), (i_ y.vi), (.pointer (T.ptr p)), (p_ b), (u_ my.ka), (i_ my.ki), (u_ my.va), (i_ my.vi), (i_ hy), (i_ ny)] 92, treeI 92 p, treeI 92 q, blk b [(u_ x.ka), (i_ x.ki), (u_ x.va), (i_ x.vi), (.pointer (T.ptr q)), (.pointer (T.ptr s)), (u_ m.ka), (i_ m.ki), (u_ m.va), (i_ m.vi), (i_ h), (i_ n)] 92, treeI 92 s] [by_] T0 (by kernel_rfl) trivial ?_)
  refine A.tn ?_
  refine A.seq ?_
  refine A.region (A.goP [.p] [(0, (p_ b)), (1, (i_ 0)), (4, n_), (5, (p_ by_)), (31, (p_ b))] [] T0 (by kernel_rfl) trivial ?_)
  refine A.cons (A.callT (some 32) [(p_ b)] [3, 2, 2] ((fun _ => (.tuple #[]))) ((fun _ => True)) ((fun _ => [blk b [(u_ x.ka), (i_ x.ki), (u_ x.va), (i_ x.vi), (.pointer (T.ptr q)), (.pointer (T.ptr s)), (u_ ((mkM x q s).ka)), (i_ ((mkM x q s).ki)), (u_ ((mkM x q s).va)), (i_ ((mkM x q s).vi)), (i_ (mkH q s)), (i_ (mkN q s))] 92, treeI 92 q, treeI 92 s])) (fun _ => [blk b [(u_ x.ka), (i_ x.ki), (u_ x.va), (i_ x.vi), (.pointer (T.ptr q)), (.pointer (T.ptr s)), (u_ ((mkM x q s).ka)), (i_ ((mkM x q s).ki)), (u_ ((mkM x q s).va)), (i_ ((mkM x q s).vi)), (i_ (mkH q s)), (i_ (mkN q s))] 92, treeI 92 q, treeI 92 s, blk by_ [(u_ y.ka), (i_ y.ki), (u_ y.va), (i_ y.vi), (.pointer (T.ptr p)), (p_ b), (u_ my.ka), (i_ my.ki), (u_ my.va), (i_ my.vi), (i_ hy), (i_ ny)] 92, treeI 92 p]) (by kernel_rfl) rfl rfl (fun ww ss hh => learn_spec b x m h n q s (by first | assumption | exact bd_small (by assumption) | exact bd_mk2 (by assumption) (by assumption)) (by first | assumption | exact bd_small (by assumption) | exact bd_mk2 (by assumption) (by assumption)) ww hh) (fun _ => rfl) ?_)
  rintro ⟨⟩ -
  refine A.done ?_
  refine A.sub [(0, (p_ b)), (1, (i_ 0)), (4, n_), (5, (p_ by_))] (by exact ⟨rfl, rfl, rfl, rfl, trivial⟩) ?_
  refine A.tn ?_
  refine A.seq ?_
  refine A.region (A.goP [.p] [(0, (p_ b)), (1, (i_ 0)), (4, n_), (5, (p_ by_)), (33, (p_ by_))] [] T0 (by kernel_rfl) trivial ?_)
  refine A.reshape [0, 0, 0] (fun _ : Unit => True) (fun _ => [treeI 92 (T.node b x (mkM x q s) (mkH q s) (mkN q s) q s)]) (fun _ => [treeI 92 (T.node b x (mkM x q s) (mkH q s) (mkN q s) q s), blk by_ [(u_ y.ka), (i_ y.ki), (u_ y.va), (i_ y.vi), (.pointer (T.ptr p)), (p_ b), (u_ my.ka), (i_ my.ki), (u_ my.va), (i_ my.vi), (i_ hy), (i_ ny)] 92, treeI 92 p]) rfl (fun w hs => tree_fold hs) (fun _ => rfl) (fun _ _ => ?_)
  refine A.cons (A.callT (some 34) [(p_ by_)] [1, 1, 0] ((fun _ => (.tuple #[]))) ((fun _ => True)) ((fun _ => [blk by_ [(u_ y.ka), (i_ y.ki), (u_ y.va), (i_ y.vi), (.pointer (T.ptr p)), (.pointer (T.ptr (T.node b x (mkM x q s) (mkH q s) (mkN q s) q s))), (u_ ((mkM y p (T.node b x (mkM x q s) (mkH q s) (mkN q s) q s)).ka)), (i_ ((mkM y p (T.node b x (mkM x q s) (mkH q s) (mkN q s) q s)).ki)), (u_ ((mkM y p (T.node b x (mkM x q s) (mkH q s) (mkN q s) q s)).va)), (i_ ((mkM y p (T.node b x (mkM x q s) (mkH q s) (mkN q s) q s)).vi)), (i_ (mkH p (T.node b x (mkM x q s) (mkH q s) (mkN q s) q s))), (i_ (mkN p (T.node b x (mkM x q s) (mkH q s) (mkN q s) q s)))] 92, treeI 92 p, treeI 92 (T.node b x (mkM x q s) (mkH q s) (mkN q s) q s)])) (fun _ => [blk by_ [(u_ y.ka), (i_ y.ki), (u_ y.va), (i_ y.vi), (.pointer (T.ptr p)), (.pointer (T.ptr (T.node b x (mkM x q s) (mkH q s) (mkN q s) q s))), (u_ ((mkM y p (T.node b x (mkM x q s) (mkH q s) (mkN q s) q s)).ka)), (i_ ((mkM y p (T.node b x (mkM x q s) (mkH q s) (mkN q s) q s)).ki)), (u_ ((mkM y p (T.node b x (mkM x q s) (mkH q s) (mkN q s) q s)).va)), (i_ ((mkM y p (T.node b x (mkM x q s) (mkH q s) (mkN q s) q s)).vi)), (i_ (mkH p (T.node b x (mkM x q s) (mkH q s) (mkN q s) q s))), (i_ (mkN p (T.node b x (mkM x q s) (mkH q s) (mkN q s) q s)))] 92, treeI 92 p, treeI 92 (T.node b x (mkM x q s) (mkH q s) (mkN q s) q s)]) (by kernel_rfl) rfl rfl (fun ww ss hh => learn_spec by_ y my hy ny p (T.node b x (mkM x q s) (mkH q s) (mkN q s) q s) (by first | assumption | exact bd_small (by assumption) | exact bd_mk2 (by assumption) (by assumption)) (by first | assumption | exact bd_small (by assumption) | exact bd_mk2 (by assumption) (by assumption)) ww hh) (fun _ => rfl) ?_)
  rintro ⟨⟩ -
  refine A.done ?_
  refine A.sub [(0, (p_ b)), (1, (i_ 0)), (4, n_), (5, (p_ by_))] (by exact ⟨rfl, rfl, rfl, rfl, trivial⟩) ?_
  refine A.tn ?_
  refine A.seq ?_
  refine A.region (A.goA [.p, .p] [(0, (p_ b)), (1, (i_ 0)), (4, (p_ by_)), (5, (p_ by_))] [] T0 (by kernel_rfl) trivial ?_)
  refine A.tn ?_
  refine A.ret ?_
  refine A.reshape [0, 0, 0] (fun _ : Unit => True) (fun _ => [treeI 92 (T.node by_ y (mkM y p (T.node b x (mkM x q s) (mkH q s) (mkN q s) q s)) (mkH p (T.node b x (mkM x q s) (mkH q s) (mkN q s) q s)) (mkN p (T.node b x (mkM x q s) (mkH q s) (mkN q s) q s)) p (T.node b x (mkM x q s) (mkH q s) (mkN q s) q s))]) (fun _ => [treeI 92 (T.node by_ y (mkM y p (T.node b x (mkM x q s) (mkH q s) (mkN q s) q s)) (mkH p (T.node b x (mkM x q s) (mkH q s) (mkN q s) q s)) (mkN p (T.node b x (mkM x q s) (mkH q s) (mkN q s) q s)) p (T.node b x (mkM x q s) (mkH q s) (mkN q s) q s))]) rfl (fun w hs => tree_fold hs) (fun _ => rfl) (fun _ _ => ?_)
  refine A.postK [0] [(p_ by_)] (fun aa ww rr ss => ⟨rv_tmp rr rfl, trivial⟩) ((T.node by_ y (mkM y p (T.node b x (mkM x q s) (mkH q s) (mkN q s) q s)) (mkH p (T.node b x (mkM x q s) (mkH q s) (mkN q s) q s)) (mkN p (T.node b x (mkM x q s) (mkH q s) (mkN q s) q s)) p (T.node b x (mkM x q s) (mkH q s) (mkN q s) q s))) ?_ ?_ (by kernel_rfl)
  · show ((p_ by_) : Value) = (.pointer (T.ptr (T.node by_ y (mkM y p (T.node b x (mkM x q s) (mkH q s) (mkN q s) q s)) (mkH p (T.node b x (mkM x q s) (mkH q s) (mkN q s) q s)) (mkN p (T.node b x (mkM x q s) (mkH q s) (mkN q s) q s)) p (T.node b x (mkM x q s) (mkH q s) (mkN q s) q s))))
    first | rfl | simp_all
  · show (T.node by_ y (mkM y p (T.node b x (mkM x q s) (mkH q s) (mkN q s) q s)) (mkH p (T.node b x (mkM x q s) (mkH q s) (mkN q s) q s)) (mkN p (T.node b x (mkM x q s) (mkH q s) (mkN q s) q s)) p (T.node b x (mkM x q s) (mkH q s) (mkN q s) q s)) = mk by_ y p (mk b x q s)
    rfl

set_option maxHeartbeats 4000000 in
set_option maxRecDepth 100000 in
theorem turn1_spec (b : Nat) (x m : It) (h n : Int) (by_ : Nat) (y my : It) (hy ny : Int) (p q s : T) (hp : p.Sm) (hq : q.Sm) (hs_ : s.Sm) (w : World) (hs : HS w (feet [blk b [(u_ x.ka), (i_ x.ki), (u_ x.va), (i_ x.vi), (.pointer (T.ptr s)), (p_ by_), (u_ m.ka), (i_ m.ki), (u_ m.va), (i_ m.vi), (i_ h), (i_ n)] 92, treeI 92 s, treeI 92 (T.node by_ y my hy ny p q)]) [blk b [(u_ x.ka), (i_ x.ki), (u_ x.va), (i_ x.vi), (.pointer (T.ptr s)), (p_ by_), (u_ m.ka), (i_ m.ki), (u_ m.va), (i_ m.vi), (i_ h), (i_ n)] 92, treeI 92 s, treeI 92 (T.node by_ y my hy ny p q)] w) :
    Calls Try.prog 67 #[(p_ b), (i_ 1)] w fun e w' => ∃ zz, e = .returned ((fun (zt : T) => (.pointer (T.ptr zt))) zz) ∧ (fun (zt : T) => zt = mk by_ y (mk b x s p) q) zz ∧ Turn [blk b [(u_ x.ka), (i_ x.ki), (u_ x.va), (i_ x.vi), (.pointer (T.ptr s)), (p_ by_), (u_ m.ka), (i_ m.ki), (u_ m.va), (i_ m.vi), (i_ h), (i_ n)] 92, treeI 92 s, treeI 92 (T.node by_ y my hy ny p q)] ((fun (zt : T) => [treeI 92 zt]) zz) w w' := by
  refine calls_of (args := [(p_ b), (i_ 1)]) (penv [(p_ b), (i_ 1)]) (feet [blk b [(u_ x.ka), (i_ x.ki), (u_ x.va), (i_ x.vi), (.pointer (T.ptr s)), (p_ by_), (u_ m.ka), (i_ m.ki), (u_ m.va), (i_ m.vi), (i_ h), (i_ n)] 92, treeI 92 s, treeI 92 (T.node by_ y my hy ny p q)]) [blk b [(u_ x.ka), (i_ x.ki), (u_ x.va), (i_ x.vi), (.pointer (T.ptr s)), (p_ by_), (u_ m.ka), (i_ m.ki), (u_ m.va), (i_ m.vi), (i_ h), (i_ n)] 92, treeI 92 s, treeI 92 (T.node by_ y my hy ny p q)] Try.func67 rfl rfl (look_penv _) hs ?_
  refine A.norm [(0, (p_ b)), (1, (i_ 1))] [blk b [(u_ x.ka), (i_ x.ki), (u_ x.va), (i_ x.vi), (.pointer (T.ptr s)), (p_ by_), (u_ m.ka), (i_ m.ki), (u_ m.va), (i_ m.vi), (i_ h), (i_ n)] 92, treeI 92 s, treeI 92 (T.node by_ y my hy ny p q)] (by exact ⟨rfl, rfl, trivial⟩) rfl ?_
  refine A.seq ?_
  refine A.region (A.goA [.p] [(0, (p_ b)), (1, (i_ 1)), (4, n_)] [] T0 (by kernel_rfl) trivial ?_)
  refine A.tn ?_
  refine A.seq ?_
  refine A.region (A.goA [.p, .p, .p, .p, .p, .ld 0, .p] [(0, (p_ b)), (1, (i_ 1)), (4, n_), (5, (p_ by_))] [b] T0 (by kernel_rfl) trivial ?_)
  refine A.tn ?_
  refine A.seq ?_
  refine A.reshape [2] (fun _ : Unit => True) (fun _ => [blk by_ [(u_ y.ka), (i_ y.ki), (u_ y.va), (i_ y.vi), (.pointer (T.ptr p)), (.pointer (T.ptr q)), (u_ my.ka), (i_ my.ki), (u_ my.va), (i_ my.vi), (i_ hy), (i_ ny)] 92, treeI 92 p, treeI 92 q]) (fun _ => [blk by_ [(u_ y.ka), (i_ y.ki), (u_ y.va), (i_ y.vi), (.pointer (T.ptr p)), (.pointer (T.ptr q)), (u_ my.ka), (i_ my.ki), (u_ my.va), (i_ my.vi), (i_ hy), (i_ ny)] 92, treeI 92 p, treeI 92 q, blk b [(u_ x.ka), (i_ x.ki), (u_ x.va), (i_ x.vi), (.pointer (T.ptr s)), (p_ by_), (u_ m.ka), (i_ m.ki), (u_ m.va), (i_ m.vi), (i_ h), (i_ n)] 92, treeI 92 s]) rfl (fun w hs => tree_open hs) (fun _ => rfl) (fun _ _ => ?_)
  refine A.draw2 [12] 13 (by kernel_rfl) ?_
  refine A.drawP 1 [.p, .p, .p, .p, .p, .p, .p, .p, .ld 0, .p, .p, .p] [0, 1, 2, 3, 4, 5, 6, 7, 8, 9, 10, 11] [(0, (p_ b)), (1, (i_ 1)), (4, n_), (5, (p_ by_)), (20, (.pointer (T.ptr p))), (23, (q_ b 5))] [by_] T0 (by kernel_rfl) trivial ?_
  refine A.only2 12 rfl (by kernel_rfl) (A.store 3 (vs := [(.pointer (T.ptr p))]) [blk by_ [(u_ y.ka), (i_ y.ki), (u_ y.va), (i_ y.vi), (.pointer (T.ptr p)), (.pointer (T.ptr q)), (u_ my.ka), (i_ my.ki), (u_ my.va), (i_ my.vi), (i_ hy), (i_ ny)] 92, treeI 92 p, treeI 92 q, blk b [(u_ x.ka), (i_ x.ki), (u_ x.va), (i_ x.vi), (.pointer (T.ptr s)), (.pointer (T.ptr p)), (u_ m.ka), (i_ m.ki), (u_ m.va), (i_ m.vi), (i_ h), (i_ n)] 92, treeI 92 s] (by kernel_rfl) rfl rfl rfl rfl (by kernel_rfl) rfl rfl (by kernel_rfl) rfl ?_)
  refine A.stage ?_
  refine A.fin2 (by kernel_rfl) ?_
  refine A.sub [(0, (p_ b)), (1, (i_ 1)), (4, n_), (5, (p_ by_))] (by exact ⟨rfl, rfl, rfl, rfl, trivial⟩) ?_
  refine A.tn ?_
  refine A.seq ?_
  refine A.region (A.goAS [.p, .p, .p, .p, .p, .p, .p, .st 0] [(0, (p_ b)), (1, (i_ 1)), (4, n_), (5, (p_ by_))] [blk by_ [(u_ y.ka), (i_ y.ki), (u_ y.va), (i_ y.vi), (p_ b), (.pointer (T.ptr q)), (u_ my.ka), (i_ my.ki), (u_ my.va), (i_ my.vi), (i_ hy), (i_ ny)] 92, treeI 92 p, treeI 92 q, blk b [(u_ x.ka), (i_ x.ki), (u_ x.va), (i_ x.vi), (.pointer (T.ptr s)), (.pointer (T.ptr p)), (u_ m.ka), (i_ m.ki), (u_ m.va), (i_ m.vi), (i_ h), (i_ n)] 92, treeI 92 s] [by_] T0 (by kernel_rfl) trivial ?_)
  refine A.tn ?_
  refine A.seq ?_
  refine A.region (A.goP [.p] [(0, (p_ b)), (1, (i_ 1)), (4, n_), (5, (p_ by_)), (31, (p_ b))] [] T0 (by kernel_rfl) trivial ?_)
  refine A.cons (A.callT (some 32) [(p_ b)] [3, 3, 1] ((fun _ => (.tuple #[]))) ((fun _ => True)) ((fun _ => [blk b [(u_ x.ka), (i_ x.ki), (u_ x.va), (i_ x.vi), (.pointer (T.ptr s)), (.pointer (T.ptr p)), (u_ ((mkM x s p).ka)), (i_ ((mkM x s p).ki)), (u_ ((mkM x s p).va)), (i_ ((mkM x s p).vi)), (i_ (mkH s p)), (i_ (mkN s p))] 92, treeI 92 s, treeI 92 p])) (fun _ => [blk b [(u_ x.ka), (i_ x.ki), (u_ x.va), (i_ x.vi), (.pointer (T.ptr s)), (.pointer (T.ptr p)), (u_ ((mkM x s p).ka)), (i_ ((mkM x s p).ki)), (u_ ((mkM x s p).va)), (i_ ((mkM x s p).vi)), (i_ (mkH s p)), (i_ (mkN s p))] 92, treeI 92 s, treeI 92 p, blk by_ [(u_ y.ka), (i_ y.ki), (u_ y.va), (i_ y.vi), (p_ b), (.pointer (T.ptr q)), (u_ my.ka), (i_ my.ki), (u_ my.va), (i_ my.vi), (i_ hy), (i_ ny)] 92, treeI 92 q]) (by kernel_rfl) rfl rfl (fun ww ss hh => learn_spec b x m h n s p (by first | assumption | exact bd_small (by assumption) | exact bd_mk2 (by assumption) (by assumption)) (by first | assumption | exact bd_small (by assumption) | exact bd_mk2 (by assumption) (by assumption)) ww hh) (fun _ => rfl) ?_)
  rintro ⟨⟩ -
  refine A.done ?_
  refine A.sub [(0, (p_ b)), (1, (i_ 1)), (4, n_), (5, (p_ by_))] (by exact ⟨rfl, rfl, rfl, rfl, trivial⟩) ?_
  refine A.tn ?_
  refine A.seq ?_
  refine A.region (A.goP [.p] [(0, (p_ b)), (1, (i_ 1)), (4, n_), (5, (p_ by_)), (33, (p_ by_))] [] T0 (by kernel_rfl) trivial ?_)
  refine A.reshape [0, 0, 0] (fun _ : Unit => True) (fun _ => [treeI 92 (T.node b x (mkM x s p) (mkH s p) (mkN s p) s p)]) (fun _ => [treeI 92 (T.node b x (mkM x s p) (mkH s p) (mkN s p) s p), blk by_ [(u_ y.ka), (i_ y.ki), (u_ y.va), (i_ y.vi), (p_ b), (.pointer (T.ptr q)), (u_ my.ka), (i_ my.ki), (u_ my.va), (i_ my.vi), (i_ hy), (i_ ny)] 92, treeI 92 q]) rfl (fun w hs => tree_fold hs) (fun _ => rfl) (fun _ _ => ?_)
  refine A.cons (A.callT (some 34) [(p_ by_)] [1, 0, 0] ((fun _ => (.tuple #[]))) ((fun _ => True)) ((fun _ => [blk by_ [(u_ y.ka), (i_ y.ki), (u_ y.va), (i_ y.vi), (.pointer (T.ptr (T.node b x (mkM x s p) (mkH s p) (mkN s p) s p))), (.pointer (T.ptr q)), (u_ ((mkM y (T.node b x (mkM x s p) (mkH s p) (mkN s p) s p) q).ka)), (i_ ((mkM y (T.node b x (mkM x s p) (mkH s p) (mkN s p) s p) q).ki)), (u_ ((mkM y (T.node b x (mkM x s p) (mkH s p) (mkN s p) s p) q).va)), (i_ ((mkM y (T.node b x (mkM x s p) (mkH s p) (mkN s p) s p) q).vi)), (i_ (mkH (T.node b x (mkM x s p) (mkH s p) (mkN s p) s p) q)), (i_ (mkN (T.node b x (mkM x s p) (mkH s p) (mkN s p) s p) q))] 92, treeI 92 (T.node b x (mkM x s p) (mkH s p) (mkN s p) s p), treeI 92 q])) (fun _ => [blk by_ [(u_ y.ka), (i_ y.ki), (u_ y.va), (i_ y.vi), (.pointer (T.ptr (T.node b x (mkM x s p) (mkH s p) (mkN s p) s p))), (.pointer (T.ptr q)), (u_ ((mkM y (T.node b x (mkM x s p) (mkH s p) (mkN s p) s p) q).ka)), (i_ ((mkM y (T.node b x (mkM x s p) (mkH s p) (mkN s p) s p) q).ki)), (u_ ((mkM y (T.node b x (mkM x s p) (mkH s p) (mkN s p) s p) q).va)), (i_ ((mkM y (T.node b x (mkM x s p) (mkH s p) (mkN s p) s p) q).vi)), (i_ (mkH (T.node b x (mkM x s p) (mkH s p) (mkN s p) s p) q)), (i_ (mkN (T.node b x (mkM x s p) (mkH s p) (mkN s p) s p) q))] 92, treeI 92 (T.node b x (mkM x s p) (mkH s p) (mkN s p) s p), treeI 92 q]) (by kernel_rfl) rfl rfl (fun ww ss hh => learn_spec by_ y my hy ny (T.node b x (mkM x s p) (mkH s p) (mkN s p) s p) q (by first | assumption | exact bd_small (by assumption) | exact bd_mk2 (by assumption) (by assumption)) (by first | assumption | exact bd_small (by assumption) | exact bd_mk2 (by assumption) (by assumption)) ww hh) (fun _ => rfl) ?_)
  rintro ⟨⟩ -
  refine A.done ?_
  refine A.sub [(0, (p_ b)), (1, (i_ 1)), (4, n_), (5, (p_ by_))] (by exact ⟨rfl, rfl, rfl, rfl, trivial⟩) ?_
  refine A.tn ?_
  refine A.seq ?_
  refine A.region (A.goA [.p, .p] [(0, (p_ b)), (1, (i_ 1)), (4, (p_ by_)), (5, (p_ by_))] [] T0 (by kernel_rfl) trivial ?_)
  refine A.tn ?_
  refine A.ret ?_
  refine A.reshape [0, 0, 0] (fun _ : Unit => True) (fun _ => [treeI 92 (T.node by_ y (mkM y (T.node b x (mkM x s p) (mkH s p) (mkN s p) s p) q) (mkH (T.node b x (mkM x s p) (mkH s p) (mkN s p) s p) q) (mkN (T.node b x (mkM x s p) (mkH s p) (mkN s p) s p) q) (T.node b x (mkM x s p) (mkH s p) (mkN s p) s p) q)]) (fun _ => [treeI 92 (T.node by_ y (mkM y (T.node b x (mkM x s p) (mkH s p) (mkN s p) s p) q) (mkH (T.node b x (mkM x s p) (mkH s p) (mkN s p) s p) q) (mkN (T.node b x (mkM x s p) (mkH s p) (mkN s p) s p) q) (T.node b x (mkM x s p) (mkH s p) (mkN s p) s p) q)]) rfl (fun w hs => tree_fold hs) (fun _ => rfl) (fun _ _ => ?_)
  refine A.postK [0] [(p_ by_)] (fun aa ww rr ss => ⟨rv_tmp rr rfl, trivial⟩) ((T.node by_ y (mkM y (T.node b x (mkM x s p) (mkH s p) (mkN s p) s p) q) (mkH (T.node b x (mkM x s p) (mkH s p) (mkN s p) s p) q) (mkN (T.node b x (mkM x s p) (mkH s p) (mkN s p) s p) q) (T.node b x (mkM x s p) (mkH s p) (mkN s p) s p) q)) ?_ ?_ (by kernel_rfl)
  · show ((p_ by_) : Value) = (.pointer (T.ptr (T.node by_ y (mkM y (T.node b x (mkM x s p) (mkH s p) (mkN s p) s p) q) (mkH (T.node b x (mkM x s p) (mkH s p) (mkN s p) s p) q) (mkN (T.node b x (mkM x s p) (mkH s p) (mkN s p) s p) q) (T.node b x (mkM x s p) (mkH s p) (mkN s p) s p) q)))
    first | rfl | simp_all
  · show (T.node by_ y (mkM y (T.node b x (mkM x s p) (mkH s p) (mkN s p) s p) q) (mkH (T.node b x (mkM x s p) (mkH s p) (mkN s p) s p) q) (mkN (T.node b x (mkM x s p) (mkH s p) (mkN s p) s p) q) (T.node b x (mkM x s p) (mkH s p) (mkN s p) s p) q) = mk by_ y (mk b x s p) q
    rfl

set_option maxHeartbeats 4000000 in
set_option maxRecDepth 100000 in
theorem balance_spec (b : Nat) (x m : It) (h n : Int) (l r : T) (hl : l.Right) (hr : r.Right) (hlc : l.cnt ≤ 900) (hrc : r.cnt ≤ 900) (w : World) (hs : HS w (feet [blk b [(u_ x.ka), (i_ x.ki), (u_ x.va), (i_ x.vi), (.pointer (T.ptr l)), (.pointer (T.ptr r)), (u_ m.ka), (i_ m.ki), (u_ m.va), (i_ m.vi), (i_ h), (i_ n)] 92, treeI 92 l, treeI 92 r]) [blk b [(u_ x.ka), (i_ x.ki), (u_ x.va), (i_ x.vi), (.pointer (T.ptr l)), (.pointer (T.ptr r)), (u_ m.ka), (i_ m.ki), (u_ m.va), (i_ m.vi), (i_ h), (i_ n)] 92, treeI 92 l, treeI 92 r] w) :
    Calls Try.prog 60 #[(p_ b)] w fun e w' => ∃ zz, e = .returned ((fun (zt : T) => (.pointer (T.ptr zt))) zz) ∧ (fun (zt : T) => zt = balT b x l r) zz ∧ Turn [blk b [(u_ x.ka), (i_ x.ki), (u_ x.va), (i_ x.vi), (.pointer (T.ptr l)), (.pointer (T.ptr r)), (u_ m.ka), (i_ m.ki), (u_ m.va), (i_ m.vi), (i_ h), (i_ n)] 92, treeI 92 l, treeI 92 r] ((fun (zt : T) => [treeI 92 zt]) zz) w w' := by
  have hl1 := hl.pos; have hr1 := hr.pos
  refine calls_of (args := [(p_ b)]) (penv [(p_ b)]) (feet [blk b [(u_ x.ka), (i_ x.ki), (u_ x.va), (i_ x.vi), (.pointer (T.ptr l)), (.pointer (T.ptr r)), (u_ m.ka), (i_ m.ki), (u_ m.va), (i_ m.vi), (i_ h), (i_ n)] 92, treeI 92 l, treeI 92 r]) [blk b [(u_ x.ka), (i_ x.ki), (u_ x.va), (i_ x.vi), (.pointer (T.ptr l)), (.pointer (T.ptr r)), (u_ m.ka), (i_ m.ki), (u_ m.va), (i_ m.vi), (i_ h), (i_ n)] 92, treeI 92 l, treeI 92 r] Try.func60 rfl rfl (look_penv _) hs ?_
  refine A.norm [(0, (p_ b))] [blk b [(u_ x.ka), (i_ x.ki), (u_ x.va), (i_ x.vi), (.pointer (T.ptr l)), (.pointer (T.ptr r)), (u_ m.ka), (i_ m.ki), (u_ m.va), (i_ m.vi), (i_ h), (i_ n)] 92, treeI 92 l, treeI 92 r] (by exact ⟨rfl, trivial⟩) rfl ?_
  refine A.seq ?_
  refine A.region (A.goA [.p] [(0, (p_ b)), (2, n_)] [] T0 (by kernel_rfl) trivial ?_)
  refine A.tn ?_
  refine A.seq ?_
  refine A.region (A.goP [.p] [(0, (p_ b)), (2, n_), (5, (p_ b))] [] T0 (by kernel_rfl) trivial ?_)
  refine A.cons (A.callT (some 6) [(p_ b)] [0, 0, 0] ((fun _ => (.tuple #[]))) ((fun _ => True)) ((fun _ => [blk b [(u_ x.ka), (i_ x.ki), (u_ x.va), (i_ x.vi), (.pointer (T.ptr l)), (.pointer (T.ptr r)), (u_ ((mkM x l r).ka)), (i_ ((mkM x l r).ki)), (u_ ((mkM x l r).va)), (i_ ((mkM x l r).vi)), (i_ (mkH l r)), (i_ (mkN l r))] 92, treeI 92 l, treeI 92 r])) (fun _ => [blk b [(u_ x.ka), (i_ x.ki), (u_ x.va), (i_ x.vi), (.pointer (T.ptr l)), (.pointer (T.ptr r)), (u_ ((mkM x l r).ka)), (i_ ((mkM x l r).ki)), (u_ ((mkM x l r).va)), (i_ ((mkM x l r).vi)), (i_ (mkH l r)), (i_ (mkN l r))] 92, treeI 92 l, treeI 92 r]) (by kernel_rfl) rfl rfl (fun ww ss hh => learn_spec b x m h n l r (by first | exact bdR (by assumption) (by omega) | exact smR (by assumption) (by omega) | exact smR (right_mk (by assumption) (by assumption)) (by simp only [cnt_node, mk, mkN]; omega)) (by first | exact bdR (by assumption) (by omega) | exact smR (by assumption) (by omega) | exact smR (right_mk (by assumption) (by assumption)) (by simp only [cnt_node, mk, mkN]; omega)) ww hh) (fun _ => rfl) ?_)
  rintro ⟨⟩ -
  refine A.done ?_
  refine A.sub [(0, (p_ b)), (2, n_)] (by exact ⟨rfl, rfl, trivial⟩) ?_
  refine A.tn ?_
  refine A.seq ?_
  refine A.seq ?_
  refine A.region (A.goA [.p, .p, .p, .ld 0, .p] [(0, (p_ b)), (2, n_), (10, (.agg #[(.pointer (T.ptr l)), (.pointer (T.ptr r))])), (11, (i_ 0))] [b] T0 (by kernel_rfl) trivial ?_)
  refine A.tn ?_
  refine A.block ?_
  refine A.unroll 400 ?_
  refine A.turnk (m := 399) ?_
  refine A.seq ?_
  refine A.region (A.goA [.p] [(0, (p_ b)), (2, n_), (10, (.agg #[(.pointer (T.ptr l)), (.pointer (T.ptr r))])), (11, (i_ 0)), (12, (b_ true))] [] T0 (by kernel_rfl) trivial ?_)
  refine A.tn ?_
  refine A.seq ?_
  refine A.cond_t rfl ?_
  refine A.skip ?_
  refine A.tn ?_
  refine A.seq ?_
  refine A.block ?_
  refine A.seq ?_
  refine A.region (A.goA [.p, .p, .p, .p] [(0, (p_ b)), (2, n_), (10, (.agg #[(.pointer (T.ptr l)), (.pointer (T.ptr r))])), (11, (i_ 0)), (12, (b_ true)), (3, (i_ 0)), (4, (.pointer (T.ptr l)))] [] T0 (by kernel_rfl) trivial ?_)
  refine A.tn ?_
  refine A.seq ?_
  refine A.seq ?_
  refine A.drawA [.p, .cq (i_ (T.hgt l)), .p, .p, .p, .p, .p, .p, .ld 0, .cq (i_ (T.hgt r)), .w ((T.hgt r) + 1), .p] [0, 1, 2, 3, 4, 5, 6, 7, 8, 9, 10, 11] [(0, (p_ b)), (2, n_), (10, (.agg #[(.pointer (T.ptr l)), (.pointer (T.ptr r))])), (11, (i_ 0)), (12, (b_ true)), (3, (i_ 0)), (4, (.pointer (T.ptr l))), (26, (b_ (decide ((T.hgt l) ≤ ((T.hgt r) + 1)))))] [b] (fun κ => κ.call 61 [(.pointer (T.ptr l))] (i_ (T.hgt l)) ∧ κ.call 61 [(.pointer (T.ptr r))] (i_ (T.hgt r)) ∧ (IntKind.i64.wrap ((T.hgt r) + 1) = ((T.hgt r) + 1)) ∧ True) (by kernel_rfl) (by kernel_rfl) ⟨(fun ww ss => high_tree l ww (ss.mem (i := 1) rfl)), (fun ww ss => high_tree r ww (ss.mem (i := 2) rfl)), (wrap_i64 (e := (T.hgt r) + 1) (by constructor <;> omega)), trivial⟩ ?_
  refine A.tn ?_
  refine A.cond (E := decide ((T.hgt l) ≤ ((T.hgt r) + 1))) rfl (fun e2 => ?_) (fun e2 => ?_)
  · skip
    have p2 := of_decide_eq_true e2
    refine A.exit ?_
    refine A.te ?_
    refine A.bh ?_
    refine A.tn ?_
    refine A.region (A.goA [.p, .p] [(0, (p_ b)), (2, n_), (10, (.agg #[(.pointer (T.ptr l)), (.pointer (T.ptr r))])), (11, (i_ 1)), (12, (b_ true)), (3, (i_ 0)), (4, (.pointer (T.ptr l))), (26, (b_ (decide ((T.hgt l) ≤ ((T.hgt r) + 1)))))] [] T0 (by kernel_rfl) trivial ?_)
    refine A.tn ?_
    refine A.turnk (m := 398) ?_
    refine A.seq ?_
    refine A.region (A.goA [.p] [(0, (p_ b)), (2, n_), (10, (.agg #[(.pointer (T.ptr l)), (.pointer (T.ptr r))])), (11, (i_ 1)), (12, (b_ true)), (3, (i_ 0)), (4, (.pointer (T.ptr l))), (26, (b_ (decide ((T.hgt l) ≤ ((T.hgt r) + 1)))))] [] T0 (by kernel_rfl) trivial ?_)
    refine A.tn ?_
    refine A.seq ?_
    refine A.cond_t rfl ?_
    refine A.skip ?_
    refine A.tn ?_
    refine A.seq ?_
    refine A.block ?_
    refine A.seq ?_
    refine A.region (A.goA [.p, .p, .p, .p] [(0, (p_ b)), (2, n_), (10, (.agg #[(.pointer (T.ptr l)), (.pointer (T.ptr r))])), (11, (i_ 1)), (12, (b_ true)), (3, (i_ 1)), (4, (.pointer (T.ptr r))), (26, (b_ (decide ((T.hgt l) ≤ ((T.hgt r) + 1)))))] [] T0 (by kernel_rfl) trivial ?_)
    refine A.tn ?_
    refine A.seq ?_
    refine A.seq ?_
    refine A.drawA [.p, .cq (i_ (T.hgt r)), .p, .p, .p, .p, .p, .p, .ld 0, .cq (i_ (T.hgt l)), .w ((T.hgt l) + 1), .p] [0, 1, 2, 3, 4, 5, 6, 7, 8, 9, 10, 11] [(0, (p_ b)), (2, n_), (10, (.agg #[(.pointer (T.ptr l)), (.pointer (T.ptr r))])), (11, (i_ 1)), (12, (b_ true)), (3, (i_ 1)), (4, (.pointer (T.ptr r))), (26, (b_ (decide ((T.hgt r) ≤ ((T.hgt l) + 1)))))] [b] (fun κ => κ.call 61 [(.pointer (T.ptr r))] (i_ (T.hgt r)) ∧ κ.call 61 [(.pointer (T.ptr l))] (i_ (T.hgt l)) ∧ (IntKind.i64.wrap ((T.hgt l) + 1) = ((T.hgt l) + 1)) ∧ True) (by kernel_rfl) (by kernel_rfl) ⟨(fun ww ss => high_tree r ww (ss.mem (i := 2) rfl)), (fun ww ss => high_tree l ww (ss.mem (i := 1) rfl)), (wrap_i64 (e := (T.hgt l) + 1) (by constructor <;> omega)), trivial⟩ ?_
    refine A.tn ?_
    refine A.cond (E := decide ((T.hgt r) ≤ ((T.hgt l) + 1))) rfl (fun e3 => ?_) (fun e3 => ?_)
    · skip
      have p3 := of_decide_eq_true e3
      refine A.exit ?_
      refine A.te ?_
      refine A.bh ?_
      refine A.tn ?_
      refine A.region (A.goA [.p, .p] [(0, (p_ b)), (2, n_), (10, (.agg #[(.pointer (T.ptr l)), (.pointer (T.ptr r))])), (11, (i_ 2)), (12, (b_ true)), (3, (i_ 1)), (4, (.pointer (T.ptr r))), (26, (b_ (decide ((T.hgt r) ≤ ((T.hgt l) + 1)))))] [] T0 (by kernel_rfl) trivial ?_)
      refine A.tn ?_
      refine A.turnk (m := 397) ?_
      refine A.seq ?_
      refine A.region (A.goA [.p] [(0, (p_ b)), (2, n_), (10, (.agg #[(.pointer (T.ptr l)), (.pointer (T.ptr r))])), (11, (i_ 2)), (12, (b_ false)), (3, (i_ 1)), (4, (.pointer (T.ptr r))), (26, (b_ (decide ((T.hgt r) ≤ ((T.hgt l) + 1)))))] [] T0 (by kernel_rfl) trivial ?_)
      refine A.tn ?_
      refine A.seq ?_
      refine A.cond_f rfl ?_
      refine A.exit ?_
      refine A.te ?_
      refine A.te ?_
      refine A.bh ?_
      refine A.tn ?_
      refine A.seq ?_
      refine A.region (A.goA [.p, .p] [(0, (p_ b)), (2, (p_ b)), (10, (.agg #[(.pointer (T.ptr l)), (.pointer (T.ptr r))])), (11, (i_ 2)), (12, (b_ false)), (3, (i_ 1)), (4, (.pointer (T.ptr r))), (26, (b_ (decide ((T.hgt r) ≤ ((T.hgt l) + 1)))))] [] T0 (by kernel_rfl) trivial ?_)
      refine A.tn ?_
      refine A.ret ?_
      refine A.reshape [0, 0, 0] (fun _ : Unit => True) (fun _ => [treeI 92 (T.node b x (mkM x l r) (mkH l r) (mkN l r) l r)]) (fun _ => [treeI 92 (T.node b x (mkM x l r) (mkH l r) (mkN l r) l r)]) rfl (fun w hs => tree_fold hs) (fun _ => rfl) (fun _ _ => ?_)
      refine A.postK [0] [(p_ b)] (fun aa ww rr ss => ⟨rv_tmp rr rfl, trivial⟩) ((T.node b x (mkM x l r) (mkH l r) (mkN l r) l r)) ?_ ?_ (by kernel_rfl)
      · show ((p_ b) : Value) = (.pointer (T.ptr (T.node b x (mkM x l r) (mkH l r) (mkN l r) l r)))
        first | rfl | simp_all
      · show (T.node b x (mkM x l r) (mkH l r) (mkN l r) l r) = balT b x l r
        first | (exact (bal_0 (by first | omega | (simp only [hgt_node, hgt_nil]; omega) | (simp only [hgt_node, hgt_nil] at *; omega)) (by first | omega | (simp only [hgt_node, hgt_nil]; omega) | (simp only [hgt_node, hgt_nil] at *; omega))).symm) | (rw [bal_R1 (by first | omega | (simp only [hgt_node, hgt_nil]; omega) | (simp only [hgt_node, hgt_nil] at *; omega)) (by first | omega | (simp only [hgt_node, hgt_nil]; omega) | (simp only [hgt_node, hgt_nil] at *; omega))]; assumption) | (rw [bal_R2 (by first | omega | (simp only [hgt_node, hgt_nil]; omega) | (simp only [hgt_node, hgt_nil] at *; omega)) (by first | omega | (simp only [hgt_node, hgt_nil]; omega) | (simp only [hgt_node, hgt_nil] at *; omega))]; assumption) | (rw [bal_L1 (by first | omega | (simp only [hgt_node, hgt_nil]; omega) | (simp only [hgt_node, hgt_nil] at *; omega)) (by first | omega | (simp only [hgt_node, hgt_nil]; omega) | (simp only [hgt_node, hgt_nil] at *; omega)) (by first | omega | (simp only [hgt_node, hgt_nil]; omega) | (simp only [hgt_node, hgt_nil] at *; omega))]; assumption) | (rw [bal_L2 (by first | omega | (simp only [hgt_node, hgt_nil]; omega) | (simp only [hgt_node, hgt_nil] at *; omega)) (by first | omega | (simp only [hgt_node, hgt_nil]; omega) | (simp only [hgt_node, hgt_nil] at *; omega)) (by first | omega | (simp only [hgt_node, hgt_nil]; omega) | (simp only [hgt_node, hgt_nil] at *; omega))]; assumption)
    · skip
      have p3 := of_decide_eq_false e3
      refine A.skip ?_
      refine A.tn ?_
      refine A.seq ?_
      refine A.seq ?_
      rcases r with _ | ⟨b1, x2, m3, h4, n5, l6, r7⟩
      · skip
        exfalso
        simp only [hgt_nil, cnt_nil] at *; omega
      · skip
        obtain ⟨hr_m, hr_h, hr_n, hr_l, hr_r⟩ := id hr
        have hr_1 := T.Right.pos hr_l; have hr_2 := T.Right.pos hr_r; simp only [hgt_node, cnt_node, mkH, mkN] at *
        refine A.reshape [2] (fun _ : Unit => True) (fun _ => [blk b1 [(u_ x2.ka), (i_ x2.ki), (u_ x2.va), (i_ x2.vi), (.pointer (T.ptr l6)), (.pointer (T.ptr r7)), (u_ m3.ka), (i_ m3.ki), (u_ m3.va), (i_ m3.vi), (i_ h4), (i_ n5)] 92, treeI 92 l6, treeI 92 r7]) (fun _ => [blk b1 [(u_ x2.ka), (i_ x2.ki), (u_ x2.va), (i_ x2.vi), (.pointer (T.ptr l6)), (.pointer (T.ptr r7)), (u_ m3.ka), (i_ m3.ki), (u_ m3.va), (i_ m3.vi), (i_ h4), (i_ n5)] 92, treeI 92 l6, treeI 92 r7, blk b [(u_ x.ka), (i_ x.ki), (u_ x.va), (i_ x.vi), (.pointer (T.ptr l)), (p_ b1), (u_ ((mkM x l (T.node b1 x2 m3 h4 n5 l6 r7)).ka)), (i_ ((mkM x l (T.node b1 x2 m3 h4 n5 l6 r7)).ki)), (u_ ((mkM x l (T.node b1 x2 m3 h4 n5 l6 r7)).va)), (i_ ((mkM x l (T.node b1 x2 m3 h4 n5 l6 r7)).vi)), (i_ (mkH l (T.node b1 x2 m3 h4 n5 l6 r7))), (i_ (mkN l (T.node b1 x2 m3 h4 n5 l6 r7)))] 92, treeI 92 l]) rfl (fun w hs => tree_open hs) (fun _ => rfl) (fun _ _ => ?_)
        refine A.drawA [.p, .p, .p, .p, .p, .p, .ld 0, .cq (i_ (T.hgt l6)), .p, .p, .p, .p, .p, .ld 0, .cq (i_ (T.hgt r7)), .p] [0, 1, 2, 3, 4, 5, 6, 7, 8, 9, 10, 11, 12, 13, 14, 15] [(0, (p_ b)), (2, n_), (10, (.agg #[(.pointer (T.ptr l)), (p_ b1)])), (11, (i_ 1)), (12, (b_ true)), (3, (i_ 1)), (4, (p_ b1)), (26, (b_ (decide ((T.hgt (T.node b1 x2 m3 h4 n5 l6 r7)) ≤ ((T.hgt l) + 1))))), (42, (b_ (decide ((T.hgt l6) > (T.hgt r7)))))] [b1, b1] (fun κ => κ.call 61 [(.pointer (T.ptr l6))] (i_ (T.hgt l6)) ∧ κ.call 61 [(.pointer (T.ptr r7))] (i_ (T.hgt r7)) ∧ True) (by kernel_rfl) (by kernel_rfl) ⟨(fun ww ss => high_tree l6 ww (ss.mem (i := 1) rfl)), (fun ww ss => high_tree r7 ww (ss.mem (i := 2) rfl)), trivial⟩ ?_
        refine A.tn ?_
        refine A.cond (E := decide ((T.hgt l6) > (T.hgt r7))) rfl (fun e4 => ?_) (fun e4 => ?_)
        · skip
          have p4 := of_decide_eq_true e4
          rcases l6 with _ | ⟨b8, x9, m10, h11, n12, l13, r14⟩
          · skip
            exfalso
            simp only [hgt_nil, cnt_nil] at *; omega
          · skip
            obtain ⟨hr_l_m, hr_l_h, hr_l_n, hr_l_l, hr_l_r⟩ := id hr_l
            have hr_l_1 := T.Right.pos hr_l_l; have hr_l_2 := T.Right.pos hr_l_r; simp only [hgt_node, cnt_node, mkH, mkN] at *
            refine A.draw2 [5, 9] 10 (by kernel_rfl) ?_
            refine A.drawP 3 [.p, .p, .p, .p, .p, .p, .p] [0, 1, 2, 3, 4, 6, 7] [(0, (p_ b)), (2, n_), (10, (.agg #[(.pointer (T.ptr l)), (p_ b1)])), (11, (i_ 1)), (12, (b_ true)), (3, (i_ 1)), (4, (p_ b1)), (26, (b_ (decide ((T.hgt (T.node b1 x2 m3 h4 n5 (T.node b8 x9 m10 h11 n12 l13 r14) r7)) ≤ ((T.hgt l) + 1))))), (42, (b_ (decide ((T.hgt (T.node b8 x9 m10 h11 n12 l13 r14)) > (T.hgt r7))))), (44, (i_ 1)), (45, (p_ b1)), (47, (i_ 0)), (50, (q_ b 4))] [] T0 (by kernel_rfl) trivial ?_
            refine A.only2 5 rfl (by kernel_rfl) (A.callT (some 48) [(p_ b1), (i_ 0)] [0, 0, 0] ((fun zt15 => (.pointer (T.ptr zt15)))) ((fun zt15 => zt15 = mk b8 x9 l13 (mk b1 x2 r14 r7))) ((fun zt15 => [treeI 92 zt15])) (fun zt15 => [treeI 92 zt15, blk b [(u_ x.ka), (i_ x.ki), (u_ x.va), (i_ x.vi), (.pointer (T.ptr l)), (p_ b1), (u_ ((mkM x l (T.node b1 x2 m3 h4 n5 (T.node b8 x9 m10 h11 n12 l13 r14) r7)).ka)), (i_ ((mkM x l (T.node b1 x2 m3 h4 n5 (T.node b8 x9 m10 h11 n12 l13 r14) r7)).ki)), (u_ ((mkM x l (T.node b1 x2 m3 h4 n5 (T.node b8 x9 m10 h11 n12 l13 r14) r7)).va)), (i_ ((mkM x l (T.node b1 x2 m3 h4 n5 (T.node b8 x9 m10 h11 n12 l13 r14) r7)).vi)), (i_ (mkH l (T.node b1 x2 m3 h4 n5 (T.node b8 x9 m10 h11 n12 l13 r14) r7))), (i_ (mkN l (T.node b1 x2 m3 h4 n5 (T.node b8 x9 m10 h11 n12 l13 r14) r7)))] 92, treeI 92 l]) (by kernel_rfl) rfl rfl (fun ww ss hh => turn0_spec b1 x2 m3 h4 n5 b8 x9 m10 h11 n12 l13 r14 r7 (by first | exact bdR (by assumption) (by omega) | exact smR (by assumption) (by omega) | exact smR (right_mk (by assumption) (by assumption)) (by simp only [cnt_node, mk, mkN]; omega)) (by first | exact bdR (by assumption) (by omega) | exact smR (by assumption) (by omega) | exact smR (right_mk (by assumption) (by assumption)) (by simp only [cnt_node, mk, mkN]; omega)) (by first | exact bdR (by assumption) (by omega) | exact smR (by assumption) (by omega) | exact smR (right_mk (by assumption) (by assumption)) (by simp only [cnt_node, mk, mkN]; omega)) ww hh) (fun _ => rfl) ?_)
            rintro zt15 hz5
            subst hz5
            refine A.stage ?_
            refine A.drawP 1 [.p] [8] [(0, (p_ b)), (2, n_), (10, (.agg #[(.pointer (T.ptr l)), (p_ b1)])), (11, (i_ 1)), (12, (b_ true)), (3, (i_ 1)), (4, (p_ b1)), (26, (b_ (decide ((T.hgt (T.node b1 x2 m3 h4 n5 (T.node b8 x9 m10 h11 n12 l13 r14) r7)) ≤ ((T.hgt l) + 1))))), (42, (b_ (decide ((T.hgt (T.node b8 x9 m10 h11 n12 l13 r14)) > (T.hgt r7))))), (48, (p_ b8)), (51, (q_ b 5))] [] T0 (by kernel_rfl) trivial ?_
            refine A.only2 9 rfl (by kernel_rfl) (A.store 1 (vs := [(p_ b8)]) [treeI 92 (T.node b8 x9 (mkM x9 l13 (T.node b1 x2 (mkM x2 r14 r7) (mkH r14 r7) (mkN r14 r7) r14 r7)) (mkH l13 (T.node b1 x2 (mkM x2 r14 r7) (mkH r14 r7) (mkN r14 r7) r14 r7)) (mkN l13 (T.node b1 x2 (mkM x2 r14 r7) (mkH r14 r7) (mkN r14 r7) r14 r7)) l13 (T.node b1 x2 (mkM x2 r14 r7) (mkH r14 r7) (mkN r14 r7) r14 r7)), blk b [(u_ x.ka), (i_ x.ki), (u_ x.va), (i_ x.vi), (.pointer (T.ptr l)), (p_ b8), (u_ ((mkM x l (T.node b1 x2 m3 h4 n5 (T.node b8 x9 m10 h11 n12 l13 r14) r7)).ka)), (i_ ((mkM x l (T.node b1 x2 m3 h4 n5 (T.node b8 x9 m10 h11 n12 l13 r14) r7)).ki)), (u_ ((mkM x l (T.node b1 x2 m3 h4 n5 (T.node b8 x9 m10 h11 n12 l13 r14) r7)).va)), (i_ ((mkM x l (T.node b1 x2 m3 h4 n5 (T.node b8 x9 m10 h11 n12 l13 r14) r7)).vi)), (i_ (mkH l (T.node b1 x2 m3 h4 n5 (T.node b8 x9 m10 h11 n12 l13 r14) r7))), (i_ (mkN l (T.node b1 x2 m3 h4 n5 (T.node b8 x9 m10 h11 n12 l13 r14) r7)))] 92, treeI 92 l] (by kernel_rfl) rfl rfl rfl rfl (by kernel_rfl) rfl rfl (by kernel_rfl) rfl ?_)
            refine A.stage ?_
            refine A.fin2 (by kernel_rfl) ?_
            refine A.sub [(0, (p_ b)), (2, n_), (10, (.agg #[(.pointer (T.ptr l)), (p_ b1)])), (11, (i_ 1)), (12, (b_ true)), (3, (i_ 1)), (4, (p_ b1)), (26, (b_ (decide ((T.hgt (T.node b1 x2 m3 h4 n5 (T.node b8 x9 m10 h11 n12 l13 r14) r7)) ≤ ((T.hgt l) + 1))))), (42, (b_ (decide ((T.hgt (T.node b8 x9 m10 h11 n12 l13 r14)) > (T.hgt r7)))))] (by exact ⟨rfl, rfl, rfl, rfl, rfl, rfl, rfl, rfl, rfl, trivial⟩) ?_
            refine A.tn ?_
            refine A.seq ?_
            refine A.region (A.goP [.p, .p] [(0, (p_ b)), (2, n_), (10, (.agg #[(.pointer (T.ptr l)), (p_ b1)])), (11, (i_ 1)), (12, (b_ true)), (3, (i_ 1)), (4, (p_ b1)), (26, (b_ (decide ((T.hgt (T.node b1 x2 m3 h4 n5 (T.node b8 x9 m10 h11 n12 l13 r14) r7)) ≤ ((T.hgt l) + 1))))), (42, (b_ (decide ((T.hgt (T.node b8 x9 m10 h11 n12 l13 r14)) > (T.hgt r7))))), (52, (p_ b)), (53, (i_ 1))] [] T0 (by kernel_rfl) trivial ?_)
            refine A.cons (A.callT (some 54) [(p_ b), (i_ 1)] [1, 1, 0] ((fun zt16 => (.pointer (T.ptr zt16)))) ((fun zt16 => zt16 = mk b8 x9 (mk b x l l13) (T.node b1 x2 (mkM x2 r14 r7) (mkH r14 r7) (mkN r14 r7) r14 r7))) ((fun zt16 => [treeI 92 zt16])) (fun zt16 => [treeI 92 zt16]) (by kernel_rfl) rfl rfl (fun ww ss hh => turn1_spec b x (mkM x l (T.node b1 x2 m3 h4 n5 (T.node b8 x9 m10 h11 n12 l13 r14) r7)) (mkH l (T.node b1 x2 m3 h4 n5 (T.node b8 x9 m10 h11 n12 l13 r14) r7)) (mkN l (T.node b1 x2 m3 h4 n5 (T.node b8 x9 m10 h11 n12 l13 r14) r7)) b8 x9 (mkM x9 l13 (T.node b1 x2 (mkM x2 r14 r7) (mkH r14 r7) (mkN r14 r7) r14 r7)) (mkH l13 (T.node b1 x2 (mkM x2 r14 r7) (mkH r14 r7) (mkN r14 r7) r14 r7)) (mkN l13 (T.node b1 x2 (mkM x2 r14 r7) (mkH r14 r7) (mkN r14 r7) r14 r7)) l13 (T.node b1 x2 (mkM x2 r14 r7) (mkH r14 r7) (mkN r14 r7) r14 r7) l (by first | exact bdR (by assumption) (by omega) | exact smR (by assumption) (by omega) | exact smR (right_mk (by assumption) (by assumption)) (by simp only [cnt_node, mk, mkN]; omega)) (by first | exact bdR (by assumption) (by omega) | exact smR (by assumption) (by omega) | exact smR (right_mk (by assumption) (by assumption)) (by simp only [cnt_node, mk, mkN]; omega)) (by first | exact bdR (by assumption) (by omega) | exact smR (by assumption) (by omega) | exact smR (right_mk (by assumption) (by assumption)) (by simp only [cnt_node, mk, mkN]; omega)) ww hh) (fun _ => rfl) ?_)
            rintro zt16 hz6
            refine A.goA [.p] [(0, (p_ b)), (2, (.pointer (T.ptr zt16))), (10, (.agg #[(.pointer (T.ptr l)), (p_ b1)])), (11, (i_ 1)), (12, (b_ true)), (3, (i_ 1)), (4, (p_ b1)), (26, (b_ (decide ((T.hgt (T.node b1 x2 m3 h4 n5 (T.node b8 x9 m10 h11 n12 l13 r14) r7)) ≤ ((T.hgt l) + 1))))), (42, (b_ (decide ((T.hgt (T.node b8 x9 m10 h11 n12 l13 r14)) > (T.hgt r7)))))] [] T0 (by kernel_rfl) trivial ?_
            refine A.tn ?_
            refine A.ret ?_
            refine A.br ?_
            refine A.tr ?_
            refine A.tr ?_
            refine A.br ?_
            refine A.tr ?_
            refine A.postK [0] [(.pointer (T.ptr zt16))] (fun aa ww rr ss => ⟨rv_tmp rr rfl, trivial⟩) (zt16) ?_ ?_ (by kernel_rfl)
            · rfl
            · show zt16 = balT b x l (T.node b1 x2 m3 h4 n5 (T.node b8 x9 m10 h11 n12 l13 r14) r7)
              first | (exact (bal_0 (by first | omega | (simp only [hgt_node, hgt_nil]; omega) | (simp only [hgt_node, hgt_nil] at *; omega)) (by first | omega | (simp only [hgt_node, hgt_nil]; omega) | (simp only [hgt_node, hgt_nil] at *; omega))).symm) | (rw [bal_R1 (by first | omega | (simp only [hgt_node, hgt_nil]; omega) | (simp only [hgt_node, hgt_nil] at *; omega)) (by first | omega | (simp only [hgt_node, hgt_nil]; omega) | (simp only [hgt_node, hgt_nil] at *; omega))]; assumption) | (rw [bal_R2 (by first | omega | (simp only [hgt_node, hgt_nil]; omega) | (simp only [hgt_node, hgt_nil] at *; omega)) (by first | omega | (simp only [hgt_node, hgt_nil]; omega) | (simp only [hgt_node, hgt_nil] at *; omega))]; assumption) | (rw [bal_L1 (by first | omega | (simp only [hgt_node, hgt_nil]; omega) | (simp only [hgt_node, hgt_nil] at *; omega)) (by first | omega | (simp only [hgt_node, hgt_nil]; omega) | (simp only [hgt_node, hgt_nil] at *; omega)) (by first | omega | (simp only [hgt_node, hgt_nil]; omega) | (simp only [hgt_node, hgt_nil] at *; omega))]; assumption) | (rw [bal_L2 (by first | omega | (simp only [hgt_node, hgt_nil]; omega) | (simp only [hgt_node, hgt_nil] at *; omega)) (by first | omega | (simp only [hgt_node, hgt_nil]; omega) | (simp only [hgt_node, hgt_nil] at *; omega)) (by first | omega | (simp only [hgt_node, hgt_nil]; omega) | (simp only [hgt_node, hgt_nil] at *; omega))]; assumption)
        · skip
          have p4 := of_decide_eq_false e4
          refine A.skip ?_
          refine A.tn ?_
          refine A.seq ?_
          refine A.region (A.goP [.p, .p] [(0, (p_ b)), (2, n_), (10, (.agg #[(.pointer (T.ptr l)), (p_ b1)])), (11, (i_ 1)), (12, (b_ true)), (3, (i_ 1)), (4, (p_ b1)), (26, (b_ (decide ((T.hgt (T.node b1 x2 m3 h4 n5 l6 r7)) ≤ ((T.hgt l) + 1))))), (42, (b_ (decide ((T.hgt l6) > (T.hgt r7))))), (52, (p_ b)), (53, (i_ 1))] [] T0 (by kernel_rfl) trivial ?_)
          refine A.reshape [0, 0, 0] (fun _ : Unit => True) (fun _ => [treeI 92 (T.node b1 x2 m3 h4 n5 l6 r7)]) (fun _ => [treeI 92 (T.node b1 x2 m3 h4 n5 l6 r7), blk b [(u_ x.ka), (i_ x.ki), (u_ x.va), (i_ x.vi), (.pointer (T.ptr l)), (p_ b1), (u_ ((mkM x l (T.node b1 x2 m3 h4 n5 l6 r7)).ka)), (i_ ((mkM x l (T.node b1 x2 m3 h4 n5 l6 r7)).ki)), (u_ ((mkM x l (T.node b1 x2 m3 h4 n5 l6 r7)).va)), (i_ ((mkM x l (T.node b1 x2 m3 h4 n5 l6 r7)).vi)), (i_ (mkH l (T.node b1 x2 m3 h4 n5 l6 r7))), (i_ (mkN l (T.node b1 x2 m3 h4 n5 l6 r7)))] 92, treeI 92 l]) rfl (fun w hs => tree_fold hs) (fun _ => rfl) (fun _ _ => ?_)
          refine A.cons (A.callT (some 54) [(p_ b), (i_ 1)] [1, 1, 0] ((fun zt17 => (.pointer (T.ptr zt17)))) ((fun zt17 => zt17 = mk b1 x2 (mk b x l l6) r7)) ((fun zt17 => [treeI 92 zt17])) (fun zt17 => [treeI 92 zt17]) (by kernel_rfl) rfl rfl (fun ww ss hh => turn1_spec b x (mkM x l (T.node b1 x2 m3 h4 n5 l6 r7)) (mkH l (T.node b1 x2 m3 h4 n5 l6 r7)) (mkN l (T.node b1 x2 m3 h4 n5 l6 r7)) b1 x2 m3 h4 n5 l6 r7 l (by first | exact bdR (by assumption) (by omega) | exact smR (by assumption) (by omega) | exact smR (right_mk (by assumption) (by assumption)) (by simp only [cnt_node, mk, mkN]; omega)) (by first | exact bdR (by assumption) (by omega) | exact smR (by assumption) (by omega) | exact smR (right_mk (by assumption) (by assumption)) (by simp only [cnt_node, mk, mkN]; omega)) (by first | exact bdR (by assumption) (by omega) | exact smR (by assumption) (by omega) | exact smR (right_mk (by assumption) (by assumption)) (by simp only [cnt_node, mk, mkN]; omega)) ww hh) (fun _ => rfl) ?_)
          rintro zt17 hz7
          refine A.goA [.p] [(0, (p_ b)), (2, (.pointer (T.ptr zt17))), (10, (.agg #[(.pointer (T.ptr l)), (p_ b1)])), (11, (i_ 1)), (12, (b_ true)), (3, (i_ 1)), (4, (p_ b1)), (26, (b_ (decide ((T.hgt (T.node b1 x2 m3 h4 n5 l6 r7)) ≤ ((T.hgt l) + 1))))), (42, (b_ (decide ((T.hgt l6) > (T.hgt r7)))))] [] T0 (by kernel_rfl) trivial ?_
          refine A.tn ?_
          refine A.ret ?_
          refine A.br ?_
          refine A.tr ?_
          refine A.tr ?_
          refine A.br ?_
          refine A.tr ?_
          refine A.postK [0] [(.pointer (T.ptr zt17))] (fun aa ww rr ss => ⟨rv_tmp rr rfl, trivial⟩) (zt17) ?_ ?_ (by kernel_rfl)
          · rfl
          · show zt17 = balT b x l (T.node b1 x2 m3 h4 n5 l6 r7)
            first | (exact (bal_0 (by first | omega | (simp only [hgt_node, hgt_nil]; omega) | (simp only [hgt_node, hgt_nil] at *; omega)) (by first | omega | (simp only [hgt_node, hgt_nil]; omega) | (simp only [hgt_node, hgt_nil] at *; omega))).symm) | (rw [bal_R1 (by first | omega | (simp only [hgt_node, hgt_nil]; omega) | (simp only [hgt_node, hgt_nil] at *; omega)) (by first | omega | (simp only [hgt_node, hgt_nil]; omega) | (simp only [hgt_node, hgt_nil] at *; omega))]; assumption) | (rw [bal_R2 (by first | omega | (simp only [hgt_node, hgt_nil]; omega) | (simp only [hgt_node, hgt_nil] at *; omega)) (by first | omega | (simp only [hgt_node, hgt_nil]; omega) | (simp only [hgt_node, hgt_nil] at *; omega))]; assumption) | (rw [bal_L1 (by first | omega | (simp only [hgt_node, hgt_nil]; omega) | (simp only [hgt_node, hgt_nil] at *; omega)) (by first | omega | (simp only [hgt_node, hgt_nil]; omega) | (simp only [hgt_node, hgt_nil] at *; omega)) (by first | omega | (simp only [hgt_node, hgt_nil]; omega) | (simp only [hgt_node, hgt_nil] at *; omega))]; assumption) | (rw [bal_L2 (by first | omega | (simp only [hgt_node, hgt_nil]; omega) | (simp only [hgt_node, hgt_nil] at *; omega)) (by first | omega | (simp only [hgt_node, hgt_nil]; omega) | (simp only [hgt_node, hgt_nil] at *; omega)) (by first | omega | (simp only [hgt_node, hgt_nil]; omega) | (simp only [hgt_node, hgt_nil] at *; omega))]; assumption)
  · skip
    have p2 := of_decide_eq_false e2
    refine A.skip ?_
    refine A.tn ?_
    refine A.seq ?_
    refine A.seq ?_
    rcases l with _ | ⟨b18, x19, m20, h21, n22, l23, r24⟩
    · skip
      exfalso
      simp only [hgt_nil, cnt_nil] at *; omega
    · skip
      obtain ⟨hl_m, hl_h, hl_n, hl_l, hl_r⟩ := id hl
      have hl_1 := T.Right.pos hl_l; have hl_2 := T.Right.pos hl_r; simp only [hgt_node, cnt_node, mkH, mkN] at *
      refine A.reshape [1] (fun _ : Unit => True) (fun _ => [blk b18 [(u_ x19.ka), (i_ x19.ki), (u_ x19.va), (i_ x19.vi), (.pointer (T.ptr l23)), (.pointer (T.ptr r24)), (u_ m20.ka), (i_ m20.ki), (u_ m20.va), (i_ m20.vi), (i_ h21), (i_ n22)] 92, treeI 92 l23, treeI 92 r24]) (fun _ => [blk b18 [(u_ x19.ka), (i_ x19.ki), (u_ x19.va), (i_ x19.vi), (.pointer (T.ptr l23)), (.pointer (T.ptr r24)), (u_ m20.ka), (i_ m20.ki), (u_ m20.va), (i_ m20.vi), (i_ h21), (i_ n22)] 92, treeI 92 l23, treeI 92 r24, blk b [(u_ x.ka), (i_ x.ki), (u_ x.va), (i_ x.vi), (p_ b18), (.pointer (T.ptr r)), (u_ ((mkM x (T.node b18 x19 m20 h21 n22 l23 r24) r).ka)), (i_ ((mkM x (T.node b18 x19 m20 h21 n22 l23 r24) r).ki)), (u_ ((mkM x (T.node b18 x19 m20 h21 n22 l23 r24) r).va)), (i_ ((mkM x (T.node b18 x19 m20 h21 n22 l23 r24) r).vi)), (i_ (mkH (T.node b18 x19 m20 h21 n22 l23 r24) r)), (i_ (mkN (T.node b18 x19 m20 h21 n22 l23 r24) r))] 92, treeI 92 r]) rfl (fun w hs => tree_open hs) (fun _ => rfl) (fun _ _ => ?_)
      refine A.drawA [.p, .p, .p, .p, .p, .p, .ld 0, .cq (i_ (T.hgt r24)), .p, .p, .p, .p, .p, .ld 0, .cq (i_ (T.hgt l23)), .p] [0, 1, 2, 3, 4, 5, 6, 7, 8, 9, 10, 11, 12, 13, 14, 15] [(0, (p_ b)), (2, n_), (10, (.agg #[(p_ b18), (.pointer (T.ptr r))])), (11, (i_ 0)), (12, (b_ true)), (3, (i_ 0)), (4, (p_ b18)), (26, (b_ (decide ((T.hgt (T.node b18 x19 m20 h21 n22 l23 r24)) ≤ ((T.hgt r) + 1))))), (42, (b_ (decide ((T.hgt r24) > (T.hgt l23)))))] [b18, b18] (fun κ => κ.call 61 [(.pointer (T.ptr r24))] (i_ (T.hgt r24)) ∧ κ.call 61 [(.pointer (T.ptr l23))] (i_ (T.hgt l23)) ∧ True) (by kernel_rfl) (by kernel_rfl) ⟨(fun ww ss => high_tree r24 ww (ss.mem (i := 2) rfl)), (fun ww ss => high_tree l23 ww (ss.mem (i := 1) rfl)), trivial⟩ ?_
      refine A.tn ?_
      refine A.cond (E := decide ((T.hgt r24) > (T.hgt l23))) rfl (fun e8 => ?_) (fun e8 => ?_)
      · skip
        have p8 := of_decide_eq_true e8
        rcases r24 with _ | ⟨b25, x26, m27, h28, n29, l30, r31⟩
        · skip
          exfalso
          simp only [hgt_nil, cnt_nil] at *; omega
        · skip
          obtain ⟨hl_r_m, hl_r_h, hl_r_n, hl_r_l, hl_r_r⟩ := id hl_r
          have hl_r_1 := T.Right.pos hl_r_l; have hl_r_2 := T.Right.pos hl_r_r; simp only [hgt_node, cnt_node, mkH, mkN] at *
          refine A.draw2 [5, 9] 10 (by kernel_rfl) ?_
          refine A.drawP 3 [.p, .p, .p, .p, .p, .p, .p] [0, 1, 2, 3, 4, 6, 7] [(0, (p_ b)), (2, n_), (10, (.agg #[(p_ b18), (.pointer (T.ptr r))])), (11, (i_ 0)), (12, (b_ true)), (3, (i_ 0)), (4, (p_ b18)), (26, (b_ (decide ((T.hgt (T.node b18 x19 m20 h21 n22 l23 (T.node b25 x26 m27 h28 n29 l30 r31))) ≤ ((T.hgt r) + 1))))), (42, (b_ (decide ((T.hgt (T.node b25 x26 m27 h28 n29 l30 r31)) > (T.hgt l23))))), (44, (i_ 0)), (45, (p_ b18)), (47, (i_ 1)), (50, (q_ b 4))] [] T0 (by kernel_rfl) trivial ?_
          refine A.only2 5 rfl (by kernel_rfl) (A.callT (some 48) [(p_ b18), (i_ 1)] [0, 0, 0] ((fun zt32 => (.pointer (T.ptr zt32)))) ((fun zt32 => zt32 = mk b25 x26 (mk b18 x19 l23 l30) r31)) ((fun zt32 => [treeI 92 zt32])) (fun zt32 => [treeI 92 zt32, blk b [(u_ x.ka), (i_ x.ki), (u_ x.va), (i_ x.vi), (p_ b18), (.pointer (T.ptr r)), (u_ ((mkM x (T.node b18 x19 m20 h21 n22 l23 (T.node b25 x26 m27 h28 n29 l30 r31)) r).ka)), (i_ ((mkM x (T.node b18 x19 m20 h21 n22 l23 (T.node b25 x26 m27 h28 n29 l30 r31)) r).ki)), (u_ ((mkM x (T.node b18 x19 m20 h21 n22 l23 (T.node b25 x26 m27 h28 n29 l30 r31)) r).va)), (i_ ((mkM x (T.node b18 x19 m20 h21 n22 l23 (T.node b25 x26 m27 h28 n29 l30 r31)) r).vi)), (i_ (mkH (T.node b18 x19 m20 h21 n22 l23 (T.node b25 x26 m27 h28 n29 l30 r31)) r)), (i_ (mkN (T.node b18 x19 m20 h21 n22 l23 (T.node b25 x26 m27 h28 n29 l30 r31)) r))] 92, treeI 92 r]) (by kernel_rfl) rfl rfl (fun ww ss hh => turn1_spec b18 x19 m20 h21 n22 b25 x26 m27 h28 n29 l30 r31 l23 (by first | exact bdR (by assumption) (by omega) | exact smR (by assumption) (by omega) | exact smR (right_mk (by assumption) (by assumption)) (by simp only [cnt_node, mk, mkN]; omega)) (by first | exact bdR (by assumption) (by omega) | exact smR (by assumption) (by omega) | exact smR (right_mk (by assumption) (by assumption)) (by simp only [cnt_node, mk, mkN]; omega)) (by first | exact bdR (by assumption) (by omega) | exact smR (by assumption) (by omega) | exact smR (right_mk (by assumption) (by assumption)) (by simp only [cnt_node, mk, mkN]; omega)) ww hh) (fun _ => rfl) ?_)
          rintro zt32 hz9
          subst hz9
          refine A.stage ?_
          refine A.drawP 1 [.p] [8] [(0, (p_ b)), (2, n_), (10, (.agg #[(p_ b18), (.pointer (T.ptr r))])), (11, (i_ 0)), (12, (b_ true)), (3, (i_ 0)), (4, (p_ b18)), (26, (b_ (decide ((T.hgt (T.node b18 x19 m20 h21 n22 l23 (T.node b25 x26 m27 h28 n29 l30 r31))) ≤ ((T.hgt r) + 1))))), (42, (b_ (decide ((T.hgt (T.node b25 x26 m27 h28 n29 l30 r31)) > (T.hgt l23))))), (48, (p_ b25)), (51, (q_ b 4))] [] T0 (by kernel_rfl) trivial ?_
          refine A.only2 9 rfl (by kernel_rfl) (A.store 1 (vs := [(p_ b25)]) [treeI 92 (T.node b25 x26 (mkM x26 (T.node b18 x19 (mkM x19 l23 l30) (mkH l23 l30) (mkN l23 l30) l23 l30) r31) (mkH (T.node b18 x19 (mkM x19 l23 l30) (mkH l23 l30) (mkN l23 l30) l23 l30) r31) (mkN (T.node b18 x19 (mkM x19 l23 l30) (mkH l23 l30) (mkN l23 l30) l23 l30) r31) (T.node b18 x19 (mkM x19 l23 l30) (mkH l23 l30) (mkN l23 l30) l23 l30) r31), blk b [(u_ x.ka), (i_ x.ki), (u_ x.va), (i_ x.vi), (p_ b25), (.pointer (T.ptr r)), (u_ ((mkM x (T.node b18 x19 m20 h21 n22 l23 (T.node b25 x26 m27 h28 n29 l30 r31)) r).ka)), (i_ ((mkM x (T.node b18 x19 m20 h21 n22 l23 (T.node b25 x26 m27 h28 n29 l30 r31)) r).ki)), (u_ ((mkM x (T.node b18 x19 m20 h21 n22 l23 (T.node b25 x26 m27 h28 n29 l30 r31)) r).va)), (i_ ((mkM x (T.node b18 x19 m20 h21 n22 l23 (T.node b25 x26 m27 h28 n29 l30 r31)) r).vi)), (i_ (mkH (T.node b18 x19 m20 h21 n22 l23 (T.node b25 x26 m27 h28 n29 l30 r31)) r)), (i_ (mkN (T.node b18 x19 m20 h21 n22 l23 (T.node b25 x26 m27 h28 n29 l30 r31)) r))] 92, treeI 92 r] (by kernel_rfl) rfl rfl rfl rfl (by kernel_rfl) rfl rfl (by kernel_rfl) rfl ?_)
          refine A.stage ?_
          refine A.fin2 (by kernel_rfl) ?_
          refine A.sub [(0, (p_ b)), (2, n_), (10, (.agg #[(p_ b18), (.pointer (T.ptr r))])), (11, (i_ 0)), (12, (b_ true)), (3, (i_ 0)), (4, (p_ b18)), (26, (b_ (decide ((T.hgt (T.node b18 x19 m20 h21 n22 l23 (T.node b25 x26 m27 h28 n29 l30 r31))) ≤ ((T.hgt r) + 1))))), (42, (b_ (decide ((T.hgt (T.node b25 x26 m27 h28 n29 l30 r31)) > (T.hgt l23)))))] (by exact ⟨rfl, rfl, rfl, rfl, rfl, rfl, rfl, rfl, rfl, trivial⟩) ?_
          refine A.tn ?_
          refine A.seq ?_
          refine A.region (A.goP [.p, .p] [(0, (p_ b)), (2, n_), (10, (.agg #[(p_ b18), (.pointer (T.ptr r))])), (11, (i_ 0)), (12, (b_ true)), (3, (i_ 0)), (4, (p_ b18)), (26, (b_ (decide ((T.hgt (T.node b18 x19 m20 h21 n22 l23 (T.node b25 x26 m27 h28 n29 l30 r31))) ≤ ((T.hgt r) + 1))))), (42, (b_ (decide ((T.hgt (T.node b25 x26 m27 h28 n29 l30 r31)) > (T.hgt l23))))), (52, (p_ b)), (53, (i_ 0))] [] T0 (by kernel_rfl) trivial ?_)
          refine A.cons (A.callT (some 54) [(p_ b), (i_ 0)] [1, 0, 0] ((fun zt33 => (.pointer (T.ptr zt33)))) ((fun zt33 => zt33 = mk b25 x26 (T.node b18 x19 (mkM x19 l23 l30) (mkH l23 l30) (mkN l23 l30) l23 l30) (mk b x r31 r))) ((fun zt33 => [treeI 92 zt33])) (fun zt33 => [treeI 92 zt33]) (by kernel_rfl) rfl rfl (fun ww ss hh => turn0_spec b x (mkM x (T.node b18 x19 m20 h21 n22 l23 (T.node b25 x26 m27 h28 n29 l30 r31)) r) (mkH (T.node b18 x19 m20 h21 n22 l23 (T.node b25 x26 m27 h28 n29 l30 r31)) r) (mkN (T.node b18 x19 m20 h21 n22 l23 (T.node b25 x26 m27 h28 n29 l30 r31)) r) b25 x26 (mkM x26 (T.node b18 x19 (mkM x19 l23 l30) (mkH l23 l30) (mkN l23 l30) l23 l30) r31) (mkH (T.node b18 x19 (mkM x19 l23 l30) (mkH l23 l30) (mkN l23 l30) l23 l30) r31) (mkN (T.node b18 x19 (mkM x19 l23 l30) (mkH l23 l30) (mkN l23 l30) l23 l30) r31) (T.node b18 x19 (mkM x19 l23 l30) (mkH l23 l30) (mkN l23 l30) l23 l30) r31 r (by first | exact bdR (by assumption) (by omega) | exact smR (by assumption) (by omega) | exact smR (right_mk (by assumption) (by assumption)) (by simp only [cnt_node, mk, mkN]; omega)) (by first | exact bdR (by assumption) (by omega) | exact smR (by assumption) (by omega) | exact smR (right_mk (by assumption) (by assumption)) (by simp only [cnt_node, mk, mkN]; omega)) (by first | exact bdR (by assumption) (by omega) | exact smR (by assumption) (by omega) | exact smR (right_mk (by assumption) (by assumption)) (by simp only [cnt_node, mk, mkN]; omega)) ww hh) (fun _ => rfl) ?_)
          rintro zt33 hz10
          refine A.goA [.p] [(0, (p_ b)), (2, (.pointer (T.ptr zt33))), (10, (.agg #[(p_ b18), (.pointer (T.ptr r))])), (11, (i_ 0)), (12, (b_ true)), (3, (i_ 0)), (4, (p_ b18)), (26, (b_ (decide ((T.hgt (T.node b18 x19 m20 h21 n22 l23 (T.node b25 x26 m27 h28 n29 l30 r31))) ≤ ((T.hgt r) + 1))))), (42, (b_ (decide ((T.hgt (T.node b25 x26 m27 h28 n29 l30 r31)) > (T.hgt l23)))))] [] T0 (by kernel_rfl) trivial ?_
          refine A.tn ?_
          refine A.ret ?_
          refine A.br ?_
          refine A.tr ?_
          refine A.tr ?_
          refine A.br ?_
          refine A.tr ?_
          refine A.postK [0] [(.pointer (T.ptr zt33))] (fun aa ww rr ss => ⟨rv_tmp rr rfl, trivial⟩) (zt33) ?_ ?_ (by kernel_rfl)
          · rfl
          · show zt33 = balT b x (T.node b18 x19 m20 h21 n22 l23 (T.node b25 x26 m27 h28 n29 l30 r31)) r
            first | (exact (bal_0 (by first | omega | (simp only [hgt_node, hgt_nil]; omega) | (simp only [hgt_node, hgt_nil] at *; omega)) (by first | omega | (simp only [hgt_node, hgt_nil]; omega) | (simp only [hgt_node, hgt_nil] at *; omega))).symm) | (rw [bal_R1 (by first | omega | (simp only [hgt_node, hgt_nil]; omega) | (simp only [hgt_node, hgt_nil] at *; omega)) (by first | omega | (simp only [hgt_node, hgt_nil]; omega) | (simp only [hgt_node, hgt_nil] at *; omega))]; assumption) | (rw [bal_R2 (by first | omega | (simp only [hgt_node, hgt_nil]; omega) | (simp only [hgt_node, hgt_nil] at *; omega)) (by first | omega | (simp only [hgt_node, hgt_nil]; omega) | (simp only [hgt_node, hgt_nil] at *; omega))]; assumption) | (rw [bal_L1 (by first | omega | (simp only [hgt_node, hgt_nil]; omega) | (simp only [hgt_node, hgt_nil] at *; omega)) (by first | omega | (simp only [hgt_node, hgt_nil]; omega) | (simp only [hgt_node, hgt_nil] at *; omega)) (by first | omega | (simp only [hgt_node, hgt_nil]; omega) | (simp only [hgt_node, hgt_nil] at *; omega))]; assumption) | (rw [bal_L2 (by first | omega | (simp only [hgt_node, hgt_nil]; omega) | (simp only [hgt_node, hgt_nil] at *; omega)) (by first | omega | (simp only [hgt_node, hgt_nil]; omega) | (simp only [hgt_node, hgt_nil] at *; omega)) (by first | omega | (simp only [hgt_node, hgt_nil]; omega) | (simp only [hgt_node, hgt_nil] at *; omega))]; assumption)
      · skip
        have p8 := of_decide_eq_false e8
        refine A.skip ?_
        refine A.tn ?_
        refine A.seq ?_
        refine A.region (A.goP [.p, .p] [(0, (p_ b)), (2, n_), (10, (.agg #[(p_ b18), (.pointer (T.ptr r))])), (11, (i_ 0)), (12, (b_ true)), (3, (i_ 0)), (4, (p_ b18)), (26, (b_ (decide ((T.hgt (T.node b18 x19 m20 h21 n22 l23 r24)) ≤ ((T.hgt r) + 1))))), (42, (b_ (decide ((T.hgt r24) > (T.hgt l23))))), (52, (p_ b)), (53, (i_ 0))] [] T0 (by kernel_rfl) trivial ?_)
        refine A.reshape [0, 0, 0] (fun _ : Unit => True) (fun _ => [treeI 92 (T.node b18 x19 m20 h21 n22 l23 r24)]) (fun _ => [treeI 92 (T.node b18 x19 m20 h21 n22 l23 r24), blk b [(u_ x.ka), (i_ x.ki), (u_ x.va), (i_ x.vi), (p_ b18), (.pointer (T.ptr r)), (u_ ((mkM x (T.node b18 x19 m20 h21 n22 l23 r24) r).ka)), (i_ ((mkM x (T.node b18 x19 m20 h21 n22 l23 r24) r).ki)), (u_ ((mkM x (T.node b18 x19 m20 h21 n22 l23 r24) r).va)), (i_ ((mkM x (T.node b18 x19 m20 h21 n22 l23 r24) r).vi)), (i_ (mkH (T.node b18 x19 m20 h21 n22 l23 r24) r)), (i_ (mkN (T.node b18 x19 m20 h21 n22 l23 r24) r))] 92, treeI 92 r]) rfl (fun w hs => tree_fold hs) (fun _ => rfl) (fun _ _ => ?_)
        refine A.cons (A.callT (some 54) [(p_ b), (i_ 0)] [1, 0, 0] ((fun zt34 => (.pointer (T.ptr zt34)))) ((fun zt34 => zt34 = mk b18 x19 l23 (mk b x r24 r))) ((fun zt34 => [treeI 92 zt34])) (fun zt34 => [treeI 92 zt34]) (by kernel_rfl) rfl rfl (fun ww ss hh => turn0_spec b x (mkM x (T.node b18 x19 m20 h21 n22 l23 r24) r) (mkH (T.node b18 x19 m20 h21 n22 l23 r24) r) (mkN (T.node b18 x19 m20 h21 n22 l23 r24) r) b18 x19 m20 h21 n22 l23 r24 r (by first | exact bdR (by assumption) (by omega) | exact smR (by assumption) (by omega) | exact smR (right_mk (by assumption) (by assumption)) (by simp only [cnt_node, mk, mkN]; omega)) (by first | exact bdR (by assumption) (by omega) | exact smR (by assumption) (by omega) | exact smR (right_mk (by assumption) (by assumption)) (by simp only [cnt_node, mk, mkN]; omega)) (by first | exact bdR (by assumption) (by omega) | exact smR (by assumption) (by omega) | exact smR (right_mk (by assumption) (by assumption)) (by simp only [cnt_node, mk, mkN]; omega)) ww hh) (fun _ => rfl) ?_)
        rintro zt34 hz11
        refine A.goA [.p] [(0, (p_ b)), (2, (.pointer (T.ptr zt34))), (10, (.agg #[(p_ b18), (.pointer (T.ptr r))])), (11, (i_ 0)), (12, (b_ true)), (3, (i_ 0)), (4, (p_ b18)), (26, (b_ (decide ((T.hgt (T.node b18 x19 m20 h21 n22 l23 r24)) ≤ ((T.hgt r) + 1))))), (42, (b_ (decide ((T.hgt r24) > (T.hgt l23)))))] [] T0 (by kernel_rfl) trivial ?_
        refine A.tn ?_
        refine A.ret ?_
        refine A.br ?_
        refine A.tr ?_
        refine A.tr ?_
        refine A.br ?_
        refine A.tr ?_
        refine A.postK [0] [(.pointer (T.ptr zt34))] (fun aa ww rr ss => ⟨rv_tmp rr rfl, trivial⟩) (zt34) ?_ ?_ (by kernel_rfl)
        · rfl
        · show zt34 = balT b x (T.node b18 x19 m20 h21 n22 l23 r24) r
          first | (exact (bal_0 (by first | omega | (simp only [hgt_node, hgt_nil]; omega) | (simp only [hgt_node, hgt_nil] at *; omega)) (by first | omega | (simp only [hgt_node, hgt_nil]; omega) | (simp only [hgt_node, hgt_nil] at *; omega))).symm) | (rw [bal_R1 (by first | omega | (simp only [hgt_node, hgt_nil]; omega) | (simp only [hgt_node, hgt_nil] at *; omega)) (by first | omega | (simp only [hgt_node, hgt_nil]; omega) | (simp only [hgt_node, hgt_nil] at *; omega))]; assumption) | (rw [bal_R2 (by first | omega | (simp only [hgt_node, hgt_nil]; omega) | (simp only [hgt_node, hgt_nil] at *; omega)) (by first | omega | (simp only [hgt_node, hgt_nil]; omega) | (simp only [hgt_node, hgt_nil] at *; omega))]; assumption) | (rw [bal_L1 (by first | omega | (simp only [hgt_node, hgt_nil]; omega) | (simp only [hgt_node, hgt_nil] at *; omega)) (by first | omega | (simp only [hgt_node, hgt_nil]; omega) | (simp only [hgt_node, hgt_nil] at *; omega)) (by first | omega | (simp only [hgt_node, hgt_nil]; omega) | (simp only [hgt_node, hgt_nil] at *; omega))]; assumption) | (rw [bal_L2 (by first | omega | (simp only [hgt_node, hgt_nil]; omega) | (simp only [hgt_node, hgt_nil] at *; omega)) (by first | omega | (simp only [hgt_node, hgt_nil]; omega) | (simp only [hgt_node, hgt_nil] at *; omega)) (by first | omega | (simp only [hgt_node, hgt_nil]; omega) | (simp only [hgt_node, hgt_nil] at *; omega))]; assumption)
end Go.Proofs.Ytdhcglflmkjneaa
