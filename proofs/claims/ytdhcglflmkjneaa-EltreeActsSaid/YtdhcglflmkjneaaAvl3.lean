/- What the functions of this layer do, proved operation by operation, for all arguments, under the conditions that each theorem states. -/
import Derived.Test.YtdhcglflmkjneaaProg
import Derived.Test.YtdhcglflmkjneaaAvl2
import Derived.Test.YtdhcglflmkjneaaAvlQ
namespace Go.Proofs.Ytdhcglflmkjneaa
open Go V
set_option linter.unusedVariables false
set_option linter.unusedSimpArgs false

set_option maxHeartbeats 4000000 in
set_option maxRecDepth 100000 in
theorem side1_spec (b : Nat) (x m : It) (h n : Int) (l r : T) (a i : Int) (hc : lessK x.ka x.ki a i) (w : World) (r0 : (blk b [(u_ x.ka), (i_ x.ki), (u_ x.va), (i_ x.vi), (.pointer (T.ptr l)), (.pointer (T.ptr r)), (u_ m.ka), (i_ m.ki), (u_ m.va), (i_ m.vi), (i_ h), (i_ n)] 92).holds w) :
    Calls Try.prog 59 #[(p_ b), (.agg #[(u_ a), (i_ i)])] w fun e w' => e = .returned (i_ 1) ∧ Fr [] w w' := by
  refine calls_of (args := [(p_ b), (.agg #[(u_ a), (i_ i)])]) (penv [(p_ b), (.agg #[(u_ a), (i_ i)])]) [] [] Try.func59 rfl rfl (look_penv _) (HS.nil w) ?_
  refine A.norm [(0, (p_ b)), (1, (.agg #[(u_ a), (i_ i)]))] [] (by exact ⟨rfl, rfl, trivial⟩) rfl ?_
  refine A.seq ?_
  refine A.region (A.goA1 [.al, .p] [0, 1, 3, 4] (fun b1 => [(0, (p_ b)), (1, (.agg #[(u_ a), (i_ i)])), (3, (p_ b1)), (4, (i_ 0))]) (fun b1 => [blk b1 [(u_ a), (i_ i)] 66]) (fun b1 => []) (fun _ => T0) (fun _ => by kernel_rfl) (fun b1 => trivial) ?_)
  intro b1
  refine A.tn ?_
  refine A.seq ?_
  refine A.seq ?_
  refine A.drawA [.ld 0, .p, .p, .p, .p, .rd [(u_ x.ka), (i_ x.ki)], .cq (i_ (cmp a i x.ka x.ki)), .p] [0, 1, 2, 3, 4, 5, 6, 7] [(0, (p_ b)), (1, (.agg #[(u_ a), (i_ i)])), (3, (p_ b1)), (4, (i_ 0)), (12, (b_ (decide ((cmp a i x.ka x.ki) > 0))))] [b1] (fun κ => κ.rd ⟨b, 0, none⟩ [(u_ x.ka), (i_ x.ki)] ∧ κ.call 63 [(.agg #[(u_ a), (i_ i)]), (.agg #[(u_ x.ka), (i_ x.ki)])] (i_ (cmp a i x.ka x.ki)) ∧ True) (by kernel_rfl) (by kernel_rfl) ⟨(reads_oldblk r0 rfl), (fun ww ss => compare_spec a i x.ka x.ki ww), trivial⟩ ?_
  refine A.tn ?_
  refine A.cond (E := decide ((cmp a i x.ka x.ki) > 0)) rfl (fun e1 => ?_) (fun e1 => ?_)
  · skip
    have p1 := of_decide_eq_true e1
    refine A.seq ?_
    refine A.region (A.goA [.p] [(0, (p_ b)), (1, (.agg #[(u_ a), (i_ i)])), (3, (p_ b1)), (4, (i_ 1)), (12, (b_ (decide ((cmp a i x.ka x.ki) > 0))))] [] T0 (by kernel_rfl) trivial ?_)
    refine A.tn ?_
    refine A.ret ?_
    refine A.tr ?_
    refine A.postQ [(i_ 1)] (fun aa ww rr ss => ⟨rv_tmp rr rfl, trivial⟩) ?_
    rfl
  · exact absurd e1 (by simpa using (cmp_pos ..).2 hc)

set_option maxHeartbeats 4000000 in
set_option maxRecDepth 100000 in
theorem side0_spec (b : Nat) (x m : It) (h n : Int) (l r : T) (a i : Int) (hc : ¬ lessK x.ka x.ki a i) (w : World) (r0 : (blk b [(u_ x.ka), (i_ x.ki), (u_ x.va), (i_ x.vi), (.pointer (T.ptr l)), (.pointer (T.ptr r)), (u_ m.ka), (i_ m.ki), (u_ m.va), (i_ m.vi), (i_ h), (i_ n)] 92).holds w) :
    Calls Try.prog 59 #[(p_ b), (.agg #[(u_ a), (i_ i)])] w fun e w' => e = .returned (i_ 0) ∧ Fr [] w w' := by
  refine calls_of (args := [(p_ b), (.agg #[(u_ a), (i_ i)])]) (penv [(p_ b), (.agg #[(u_ a), (i_ i)])]) [] [] Try.func59 rfl rfl (look_penv _) (HS.nil w) ?_
  refine A.norm [(0, (p_ b)), (1, (.agg #[(u_ a), (i_ i)]))] [] (by exact ⟨rfl, rfl, trivial⟩) rfl ?_
  refine A.seq ?_
  refine A.region (A.goA1 [.al, .p] [0, 1, 3, 4] (fun b1 => [(0, (p_ b)), (1, (.agg #[(u_ a), (i_ i)])), (3, (p_ b1)), (4, (i_ 0))]) (fun b1 => [blk b1 [(u_ a), (i_ i)] 66]) (fun b1 => []) (fun _ => T0) (fun _ => by kernel_rfl) (fun b1 => trivial) ?_)
  intro b1
  refine A.tn ?_
  refine A.seq ?_
  refine A.seq ?_
  refine A.drawA [.ld 0, .p, .p, .p, .p, .rd [(u_ x.ka), (i_ x.ki)], .cq (i_ (cmp a i x.ka x.ki)), .p] [0, 1, 2, 3, 4, 5, 6, 7] [(0, (p_ b)), (1, (.agg #[(u_ a), (i_ i)])), (3, (p_ b1)), (4, (i_ 0)), (12, (b_ (decide ((cmp a i x.ka x.ki) > 0))))] [b1] (fun κ => κ.rd ⟨b, 0, none⟩ [(u_ x.ka), (i_ x.ki)] ∧ κ.call 63 [(.agg #[(u_ a), (i_ i)]), (.agg #[(u_ x.ka), (i_ x.ki)])] (i_ (cmp a i x.ka x.ki)) ∧ True) (by kernel_rfl) (by kernel_rfl) ⟨(reads_oldblk r0 rfl), (fun ww ss => compare_spec a i x.ka x.ki ww), trivial⟩ ?_
  refine A.tn ?_
  refine A.cond (E := decide ((cmp a i x.ka x.ki) > 0)) rfl (fun e1 => ?_) (fun e1 => ?_)
  · exact absurd e1 (by simpa using fun h_ => hc ((cmp_pos ..).1 h_))
  · skip
    have p1 := of_decide_eq_false e1
    refine A.skip ?_
    refine A.tn ?_
    refine A.seq ?_
    refine A.region (A.goA [.p] [(0, (p_ b)), (1, (.agg #[(u_ a), (i_ i)])), (3, (p_ b1)), (4, (i_ 0)), (12, (b_ (decide ((cmp a i x.ka x.ki) > 0))))] [] T0 (by kernel_rfl) trivial ?_)
    refine A.tn ?_
    refine A.ret ?_
    refine A.postQ [(i_ 0)] (fun aa ww rr ss => ⟨rv_tmp rr rfl, trivial⟩) ?_
    rfl

set_option maxHeartbeats 4000000 in
set_option maxRecDepth 100000 in
theorem change_ins_step (t : T) (bk bv : Nat) (ka ki va vi : Int) (ih : ∀ (t' : T) (bk' bv' : Nat) (ka' ki' va' vi' : Int), SizeOf.sizeOf t' < SizeOf.sizeOf t → ∀ (hR : t'.Right) (hB : t'.Bal) (hS : Srt t'.toL) (hN : ∀ y ∈ t'.toL, ¬ (y.ka = ka' ∧ y.ki = ki')) (hC : t'.cnt ≤ 800) (w : World) (hs : HS w (feet [treeI 92 t', blk bk' [(u_ ka'), (i_ ki')] 66, blk bv' [(u_ va'), (i_ vi')] 66]) [treeI 92 t', blk bk' [(u_ ka'), (i_ ki')] 66, blk bv' [(u_ va'), (i_ vi')] 66] w), Calls Try.prog 48 #[(.pointer (T.ptr t')), (.agg #[(u_ ka'), (i_ ki')]), (.func (.func 50) #[] #[(p_ bk'), (p_ bv')])] w fun e w' => ∃ zz, e = .returned ((fun (zt : T) => (.pointer (T.ptr zt))) zz) ∧ (fun (zt : T) => Chg t' zt (insL (⟨ka', ki', va', vi'⟩ : It) t'.toL) 0 1) zz ∧ Turn [treeI 92 t', blk bk' [(u_ ka'), (i_ ki')] 66, blk bv' [(u_ va'), (i_ vi')] 66] ((fun (zt : T) => [blk bk' [(u_ ka'), (i_ ki')] 66, blk bv' [(u_ va'), (i_ vi')] 66, treeI 92 zt]) zz) w w')  (hR : t.Right) (hB : t.Bal) (hS : Srt t.toL) (hN : ∀ y ∈ t.toL, ¬ (y.ka = ka ∧ y.ki = ki)) (hC : t.cnt ≤ 800) (w : World) (hs : HS w (feet [treeI 92 t, blk bk [(u_ ka), (i_ ki)] 66, blk bv [(u_ va), (i_ vi)] 66]) [treeI 92 t, blk bk [(u_ ka), (i_ ki)] 66, blk bv [(u_ va), (i_ vi)] 66] w) :
    Calls Try.prog 48 #[(.pointer (T.ptr t)), (.agg #[(u_ ka), (i_ ki)]), (.func (.func 50) #[] #[(p_ bk), (p_ bv)])] w fun e w' => ∃ zz, e = .returned ((fun (zt : T) => (.pointer (T.ptr zt))) zz) ∧ (fun (zt : T) => Chg t zt (insL (⟨ka, ki, va, vi⟩ : It) t.toL) 0 1) zz ∧ Turn [treeI 92 t, blk bk [(u_ ka), (i_ ki)] 66, blk bv [(u_ va), (i_ vi)] 66] ((fun (zt : T) => [blk bk [(u_ ka), (i_ ki)] 66, blk bv [(u_ va), (i_ vi)] 66, treeI 92 zt]) zz) w w' := by
  refine calls_of (args := [(.pointer (T.ptr t)), (.agg #[(u_ ka), (i_ ki)]), (.func (.func 50) #[] #[(p_ bk), (p_ bv)])]) (penv [(.pointer (T.ptr t)), (.agg #[(u_ ka), (i_ ki)]), (.func (.func 50) #[] #[(p_ bk), (p_ bv)])]) (feet [treeI 92 t, blk bk [(u_ ka), (i_ ki)] 66, blk bv [(u_ va), (i_ vi)] 66]) [treeI 92 t, blk bk [(u_ ka), (i_ ki)] 66, blk bv [(u_ va), (i_ vi)] 66] Try.func48 rfl rfl (look_penv _) hs ?_
  refine A.norm [(0, (.pointer (T.ptr t))), (1, (.agg #[(u_ ka), (i_ ki)])), (2, (.func (.func 50) #[] #[(p_ bk), (p_ bv)]))] [treeI 92 t, blk bk [(u_ ka), (i_ ki)] 66, blk bv [(u_ va), (i_ vi)] 66] (by exact ⟨rfl, rfl, rfl, trivial⟩) rfl ?_
  refine A.seq ?_
  refine A.region (A.goA1 [.al, .p] [0, 1, 2, 4, 6] (fun b1 => [(0, (.pointer (T.ptr t))), (1, (.agg #[(u_ ka), (i_ ki)])), (2, (.func (.func 50) #[] #[(p_ bk), (p_ bv)])), (4, (p_ b1)), (6, n_)]) (fun b1 => [treeI 92 t, blk bk [(u_ ka), (i_ ki)] 66, blk bv [(u_ va), (i_ vi)] 66, blk b1 [(u_ ka), (i_ ki)] 66]) (fun b1 => []) (fun _ => T0) (fun _ => by kernel_rfl) (fun b1 => trivial) ?_)
  intro b1
  refine A.tn ?_
  refine A.seq ?_
  refine A.seq ?_
  rcases t with _ | ⟨b2, x3, m4, h5, n6, l7, r8⟩
  · skip
    refine A.drawA [.p, .p, .p, .sk, .sk, .sk, .sk, .sk, .sk, .sk, .p] [0, 1, 2, 3, 4, 5, 6, 7, 8, 9, 10] [(0, n_), (1, (.agg #[(u_ ka), (i_ ki)])), (2, (.func (.func 50) #[] #[(p_ bk), (p_ bv)])), (4, (p_ b1)), (6, n_), (18, (b_ true))] [] T0 (by kernel_rfl) (by kernel_rfl) trivial ?_
    refine A.tn ?_
    refine A.cond_t rfl ?_
    refine A.seq ?_
    refine A.region (A.goP [.p, .p] [(0, n_), (1, (.agg #[(u_ ka), (i_ ki)])), (2, (.func (.func 50) #[] #[(p_ bk), (p_ bv)])), (4, (p_ b1)), (6, n_), (18, (b_ true)), (19, (.func (.func 50) #[] #[(p_ bk), (p_ bv)])), (20, n_)] [] T0 (by kernel_rfl) trivial ?_)
    refine A.cons (A.inlX (some 21) [n_, (p_ bk), (p_ bv)] [(0, n_), (1, (p_ bk)), (2, (p_ bv))] (by kernel_rfl) rfl Try.func50 rfl rfl ?_)
    refine A.seq ?_
    refine A.region (A.goA [.p] [(1, (p_ bk)), (2, (p_ bv)), (4, n_)] [] T0 (by kernel_rfl) trivial ?_)
    refine A.tn ?_
    refine A.seq ?_
    refine A.region (A.goA1 [.ld 1, .ld 2, .p, .p, .al, .p] [1, 2, 4, 5] (fun b9 => [(1, (p_ bk)), (2, (p_ bv)), (4, n_), (5, (p_ b9))]) (fun b9 => [treeI 92 T.nil, blk bk [(u_ ka), (i_ ki)] 66, blk bv [(u_ va), (i_ vi)] 66, blk b1 [(u_ ka), (i_ ki)] 66, blk b9 [(u_ ka), (i_ ki), (u_ va), (i_ vi), n_, n_, (u_ 0), (i_ 0), (u_ 0), (i_ 0), (i_ 0), (i_ 0)] 92]) (fun b9 => [bk, bv]) (fun _ => T0) (fun _ => by kernel_rfl) (fun b9 => trivial) ?_)
    intro b9
    refine A.tn ?_
    refine A.seq ?_
    refine A.region (A.goP [.p] [(1, (p_ bk)), (2, (p_ bv)), (4, n_), (5, (p_ b9)), (11, (p_ b9))] [] T0 (by kernel_rfl) trivial ?_)
    refine A.nilT [treeI 92 T.nil, blk bk [(u_ ka), (i_ ki)] 66, blk bv [(u_ va), (i_ vi)] 66, blk b1 [(u_ ka), (i_ ki)] 66, blk b9 [(u_ ka), (i_ ki), (u_ va), (i_ vi), n_, n_, (u_ 0), (i_ 0), (u_ 0), (i_ 0), (i_ 0), (i_ 0)] 92, treeI 92 T.nil] rfl ?_
    refine A.cons (A.callT (some 12) [(p_ b9)] [4, 0, 3] ((fun _ => (.tuple #[]))) ((fun _ => True)) ((fun _ => [blk b9 [(u_ ((⟨ka, ki, va, vi⟩ : It).ka)), (i_ ((⟨ka, ki, va, vi⟩ : It).ki)), (u_ ((⟨ka, ki, va, vi⟩ : It).va)), (i_ ((⟨ka, ki, va, vi⟩ : It).vi)), (.pointer (T.ptr T.nil)), (.pointer (T.ptr T.nil)), (u_ ((mkM (⟨ka, ki, va, vi⟩ : It) T.nil T.nil).ka)), (i_ ((mkM (⟨ka, ki, va, vi⟩ : It) T.nil T.nil).ki)), (u_ ((mkM (⟨ka, ki, va, vi⟩ : It) T.nil T.nil).va)), (i_ ((mkM (⟨ka, ki, va, vi⟩ : It) T.nil T.nil).vi)), (i_ (mkH T.nil T.nil)), (i_ (mkN T.nil T.nil))] 92, treeI 92 T.nil, treeI 92 T.nil])) (fun _ => [blk b9 [(u_ ((⟨ka, ki, va, vi⟩ : It).ka)), (i_ ((⟨ka, ki, va, vi⟩ : It).ki)), (u_ ((⟨ka, ki, va, vi⟩ : It).va)), (i_ ((⟨ka, ki, va, vi⟩ : It).vi)), (.pointer (T.ptr T.nil)), (.pointer (T.ptr T.nil)), (u_ ((mkM (⟨ka, ki, va, vi⟩ : It) T.nil T.nil).ka)), (i_ ((mkM (⟨ka, ki, va, vi⟩ : It) T.nil T.nil).ki)), (u_ ((mkM (⟨ka, ki, va, vi⟩ : It) T.nil T.nil).va)), (i_ ((mkM (⟨ka, ki, va, vi⟩ : It) T.nil T.nil).vi)), (i_ (mkH T.nil T.nil)), (i_ (mkN T.nil T.nil))] 92, treeI 92 T.nil, treeI 92 T.nil, blk bk [(u_ ka), (i_ ki)] 66, blk bv [(u_ va), (i_ vi)] 66, blk b1 [(u_ ka), (i_ ki)] 66]) (by kernel_rfl) rfl rfl (fun ww ss hh => learn_spec b9 (⟨ka, ki, va, vi⟩ : It) (⟨0, 0, 0, 0⟩ : It) 0 0 T.nil T.nil (by first | exact bdR (by assumption) (by omega) | exact smR (by assumption) (by omega) | exact bdR right_nil (by decide)) (by first | exact bdR (by assumption) (by omega) | exact smR (by assumption) (by omega) | exact bdR right_nil (by decide)) ww hh) (fun _ => rfl) ?_)
    rintro ⟨⟩ -
    refine A.done ?_
    refine A.sub [(1, (p_ bk)), (2, (p_ bv)), (4, n_), (5, (p_ b9))] (by exact ⟨rfl, rfl, rfl, rfl, trivial⟩) ?_
    refine A.tn ?_
    refine A.seq ?_
    refine A.region (A.goA [.p, .p] [(1, (p_ bk)), (2, (p_ bv)), (4, (p_ b9)), (5, (p_ b9))] [] T0 (by kernel_rfl) trivial ?_)
    refine A.tn ?_
    refine A.ret ?_
    refine A.post [(p_ b9)] (fun aa ww rr ss => ⟨rv_tmp rr rfl, trivial⟩) (A.back (by kernel_rfl) ?_)
    refine A.goA [.p] [(0, n_), (1, (.agg #[(u_ ka), (i_ ki)])), (2, (.func (.func 50) #[] #[(p_ bk), (p_ bv)])), (4, (p_ b1)), (6, (p_ b9)), (18, (b_ true))] [] T0 (by kernel_rfl) trivial ?_
    refine A.tn ?_
    refine A.ret ?_
    refine A.tr ?_
    refine A.reshape [0, 0, 0] (fun _ : Unit => True) (fun _ => [treeI 92 (T.node b9 (⟨ka, ki, va, vi⟩ : It) (mkM (⟨ka, ki, va, vi⟩ : It) T.nil T.nil) (mkH T.nil T.nil) (mkN T.nil T.nil) T.nil T.nil)]) (fun _ => [treeI 92 (T.node b9 (⟨ka, ki, va, vi⟩ : It) (mkM (⟨ka, ki, va, vi⟩ : It) T.nil T.nil) (mkH T.nil T.nil) (mkN T.nil T.nil) T.nil T.nil), blk bk [(u_ ka), (i_ ki)] 66, blk bv [(u_ va), (i_ vi)] 66, blk b1 [(u_ ka), (i_ ki)] 66]) rfl (fun w hs => tree_fold hs) (fun _ => rfl) (fun _ _ => ?_)
    refine A.postK [1, 1, 0] [(p_ b9)] (fun aa ww rr ss => ⟨rv_tmp rr rfl, trivial⟩) ((T.node b9 (⟨ka, ki, va, vi⟩ : It) (mkM (⟨ka, ki, va, vi⟩ : It) T.nil T.nil) (mkH T.nil T.nil) (mkN T.nil T.nil) T.nil T.nil)) ?_ ?_ (by kernel_rfl)
    · show ((p_ b9) : Value) = (.pointer (T.ptr (T.node b9 (⟨ka, ki, va, vi⟩ : It) (mkM (⟨ka, ki, va, vi⟩ : It) T.nil T.nil) (mkH T.nil T.nil) (mkN T.nil T.nil) T.nil T.nil)))
      first | rfl | simp_all
    · show Chg T.nil (T.node b9 (⟨ka, ki, va, vi⟩ : It) (mkM (⟨ka, ki, va, vi⟩ : It) T.nil T.nil) (mkH T.nil T.nil) (mkN T.nil T.nil) T.nil T.nil) (insL (⟨ka, ki, va, vi⟩ : It) T.nil.toL) 0 1
      first | exact chg_leaf | (subst_vars; exact ins_R hR hB hS (by assumption) hc) | (subst_vars; exact ins_L hR hB (by assumption) (by have := hN_x; show lessK ka ki _ _; unfold lessK at *; omega))
  · skip
    obtain ⟨hR_m, hR_h, hR_n, hR_l, hR_r⟩ := id hR; obtain ⟨hB_1, hB_2, hB_l, hB_r⟩ := id hB
    have hS_ := srt_mid (L := T.toL l7) (x := x3) (R := T.toL r8) hS; have hR_1 := hR_l.pos; have hR_2 := hR_r.pos
    have hN_l : ∀ y ∈ T.toL l7, ¬ (y.ka = ka ∧ y.ki = ki) := fun y hy => hN y (by simp [T.toL, hy]); have hN_r : ∀ y ∈ T.toL r8, ¬ (y.ka = ka ∧ y.ki = ki) := fun y hy => hN y (by simp [T.toL, hy]); have hN_x : ¬ (x3.ka = ka ∧ x3.ki = ki) := hN x3 (by simp [T.toL])
    simp only [hgt_node, cnt_node, mkH, mkN] at hR_h hR_n hC
    refine A.reshape [0] (fun _ : Unit => True) (fun _ => [blk b2 [(u_ x3.ka), (i_ x3.ki), (u_ x3.va), (i_ x3.vi), (.pointer (T.ptr l7)), (.pointer (T.ptr r8)), (u_ m4.ka), (i_ m4.ki), (u_ m4.va), (i_ m4.vi), (i_ h5), (i_ n6)] 92, treeI 92 l7, treeI 92 r8]) (fun _ => [blk b2 [(u_ x3.ka), (i_ x3.ki), (u_ x3.va), (i_ x3.vi), (.pointer (T.ptr l7)), (.pointer (T.ptr r8)), (u_ m4.ka), (i_ m4.ki), (u_ m4.va), (i_ m4.vi), (i_ h5), (i_ n6)] 92, treeI 92 l7, treeI 92 r8, blk bk [(u_ ka), (i_ ki)] 66, blk bv [(u_ va), (i_ vi)] 66, blk b1 [(u_ ka), (i_ ki)] 66]) rfl (fun w hs => tree_open hs) (fun _ => rfl) (fun _ _ => ?_)
    refine A.drawA [.p, .p, .p, .p, .p, .p, .p, .ld 0, .ld 5, .eq, .p] [0, 1, 2, 3, 4, 5, 6, 7, 8, 9, 10] [(0, (p_ b2)), (1, (.agg #[(u_ ka), (i_ ki)])), (2, (.func (.func 50) #[] #[(p_ bk), (p_ bv)])), (4, (p_ b1)), (6, n_), (18, (b_ ((x3.ka == ka) && (x3.ki == ki))))] [b2, b1] T0 (by kernel_rfl) (by kernel_rfl) trivial ?_
    refine A.tn ?_
    refine A.cond (E := (x3.ka == ka) && (x3.ki == ki)) rfl (fun e2 => ?_) (fun e2 => ?_)
    · exact absurd e2 (by simp; exact fun h1 h2 => hN_x ⟨h1, h2⟩)
    · skip
      have p2 := e2; try simp only [decide_eq_true_eq, decide_eq_false_iff_not, beq_iff_eq, beq_eq_false_iff_ne, bne_iff_ne, bne_eq_false_iff_eq, ne_eq, Bool.and_eq_true, Bool.or_eq_true, Bool.or_eq_false_iff, Bool.not_eq_true', Bool.not_eq_false', Int.not_lt, Int.not_le, gt_iff_lt, ge_iff_le, Classical.not_not] at p2
      refine A.skip ?_
      refine A.tn ?_
      refine A.seq ?_
      by_cases hc : lessK x3.ka x3.ki ka ki
      · skip
        refine A.region (A.goA [.p, .ld 5, .cq (i_ 1), .p] [(0, (p_ b2)), (1, (.agg #[(u_ ka), (i_ ki)])), (2, (.func (.func 50) #[] #[(p_ bk), (p_ bv)])), (4, (p_ b1)), (6, n_), (18, (b_ ((x3.ka == ka) && (x3.ki == ki)))), (7, (i_ 1))] [b1] (fun κ => κ.call 59 [(p_ b2), (.agg #[(u_ ka), (i_ ki)])] (i_ 1) ∧ True) (by kernel_rfl) ⟨(fun ww ss => side1_spec b2 x3 m4 h5 n6 l7 r8 ka ki (by assumption) ww (ss.mem (i := 0) rfl)), trivial⟩ ?_)
        refine A.tn ?_
        refine A.seq ?_
        refine A.draw2 [10, 14] 15 (by kernel_rfl) ?_
        refine A.drawP 3 [.p, .p, .p, .p, .p, .p, .p, .ld 0, .ld 5, .p, .p, .p] [0, 1, 2, 3, 4, 5, 6, 7, 8, 9, 11, 12] [(0, (p_ b2)), (1, (.agg #[(u_ ka), (i_ ki)])), (2, (.func (.func 50) #[] #[(p_ bk), (p_ bv)])), (4, (p_ b1)), (6, n_), (18, (b_ ((x3.ka == ka) && (x3.ki == ki)))), (7, (i_ 1)), (26, (i_ 1)), (32, (.pointer (T.ptr r8))), (33, (.agg #[(u_ ka), (i_ ki)])), (34, (.func (.func 50) #[] #[(p_ bk), (p_ bv)])), (37, (q_ b2 4))] [b2, b1] T0 (by kernel_rfl) trivial ?_
        refine A.only2 10 rfl (by kernel_rfl) (A.callT (some 35) [(.pointer (T.ptr r8)), (.agg #[(u_ ka), (i_ ki)]), (.func (.func 50) #[] #[(p_ bk), (p_ bv)])] [2, 2, 2] ((fun zt10 => (.pointer (T.ptr zt10)))) ((fun zt10 => Chg r8 zt10 (insL (⟨ka, ki, va, vi⟩ : It) r8.toL) 0 1)) ((fun zt10 => [blk bk [(u_ ka), (i_ ki)] 66, blk bv [(u_ va), (i_ vi)] 66, treeI 92 zt10])) (fun zt10 => [blk bk [(u_ ka), (i_ ki)] 66, blk bv [(u_ va), (i_ vi)] 66, treeI 92 zt10, blk b2 [(u_ x3.ka), (i_ x3.ki), (u_ x3.va), (i_ x3.vi), (.pointer (T.ptr l7)), (.pointer (T.ptr r8)), (u_ m4.ka), (i_ m4.ki), (u_ m4.va), (i_ m4.vi), (i_ h5), (i_ n6)] 92, treeI 92 l7, blk b1 [(u_ ka), (i_ ki)] 66]) (by kernel_rfl) rfl rfl (fun ww ss hh => ih r8 bk bv ka ki va vi (by first | (simp; done) | (simp; omega)) (by first | assumption | omega | exact hS_.1 | exact hS_.2.1) (by first | assumption | omega | exact hS_.1 | exact hS_.2.1) (by first | assumption | omega | exact hS_.1 | exact hS_.2.1) (by first | assumption | omega | exact hS_.1 | exact hS_.2.1) (by first | assumption | omega | exact hS_.1 | exact hS_.2.1) ww hh) (fun _ => rfl) ?_)
        rintro zt10 hz3
        obtain ⟨hz31, hz32, hz33, hz34, hz35⟩ := id hz3; have hz36 := T.Right.pos hz31
        rw [hz33, insL_len] at hz36
        refine A.stage ?_
        refine A.drawP 1 [.p] [13] [(0, (p_ b2)), (1, (.agg #[(u_ ka), (i_ ki)])), (2, (.func (.func 50) #[] #[(p_ bk), (p_ bv)])), (4, (p_ b1)), (6, n_), (18, (b_ ((x3.ka == ka) && (x3.ki == ki)))), (7, (i_ 1)), (35, (.pointer (T.ptr zt10))), (38, (q_ b2 5))] [] T0 (by kernel_rfl) trivial ?_
        refine A.only2 14 rfl (by kernel_rfl) (A.store 3 (vs := [(.pointer (T.ptr zt10))]) [blk bk [(u_ ka), (i_ ki)] 66, blk bv [(u_ va), (i_ vi)] 66, treeI 92 zt10, blk b2 [(u_ x3.ka), (i_ x3.ki), (u_ x3.va), (i_ x3.vi), (.pointer (T.ptr l7)), (.pointer (T.ptr zt10)), (u_ m4.ka), (i_ m4.ki), (u_ m4.va), (i_ m4.vi), (i_ h5), (i_ n6)] 92, treeI 92 l7, blk b1 [(u_ ka), (i_ ki)] 66] (by kernel_rfl) rfl rfl rfl rfl (by kernel_rfl) rfl rfl (by kernel_rfl) rfl ?_)
        refine A.stage ?_
        refine A.fin2 (by kernel_rfl) ?_
        refine A.sub [(0, (p_ b2)), (1, (.agg #[(u_ ka), (i_ ki)])), (2, (.func (.func 50) #[] #[(p_ bk), (p_ bv)])), (4, (p_ b1)), (6, n_), (18, (b_ ((x3.ka == ka) && (x3.ki == ki)))), (7, (i_ 1))] (by exact ⟨rfl, rfl, rfl, rfl, rfl, rfl, rfl, trivial⟩) ?_
        refine A.tn ?_
        refine A.seq ?_
        refine A.region (A.goP [.p] [(0, (p_ b2)), (1, (.agg #[(u_ ka), (i_ ki)])), (2, (.func (.func 50) #[] #[(p_ bk), (p_ bv)])), (4, (p_ b1)), (6, n_), (18, (b_ ((x3.ka == ka) && (x3.ki == ki)))), (7, (i_ 1)), (39, (p_ b2))] [] T0 (by kernel_rfl) trivial ?_)
        refine A.cons (A.callT (some 40) [(p_ b2)] [3, 3, 2] ((fun zt11 => (.pointer (T.ptr zt11)))) ((fun zt11 => zt11 = balT b2 x3 l7 zt10)) ((fun zt11 => [treeI 92 zt11])) (fun zt11 => [treeI 92 zt11, blk bk [(u_ ka), (i_ ki)] 66, blk bv [(u_ va), (i_ vi)] 66, blk b1 [(u_ ka), (i_ ki)] 66]) (by kernel_rfl) rfl rfl (fun ww ss hh => balance_spec b2 x3 m4 h5 n6 l7 zt10 (by first | assumption | omega | exact hS_.1 | exact hS_.2.1) (by first | assumption | omega | exact hS_.1 | exact hS_.2.1) (by first | assumption | omega | exact hS_.1 | exact hS_.2.1) (by first | assumption | omega | exact hS_.1 | exact hS_.2.1) ww hh) (fun _ => rfl) ?_)
        rintro zt11 hz4
        refine A.goA [.p] [(0, (p_ b2)), (1, (.agg #[(u_ ka), (i_ ki)])), (2, (.func (.func 50) #[] #[(p_ bk), (p_ bv)])), (4, (p_ b1)), (6, (.pointer (T.ptr zt11))), (18, (b_ ((x3.ka == ka) && (x3.ki == ki)))), (7, (i_ 1))] [] T0 (by kernel_rfl) trivial ?_
        refine A.tn ?_
        refine A.ret ?_
        refine A.postK [1, 1, 0] [(.pointer (T.ptr zt11))] (fun aa ww rr ss => ⟨rv_tmp rr rfl, trivial⟩) (zt11) ?_ ?_ (by kernel_rfl)
        · rfl
        · show Chg (T.node b2 x3 m4 h5 n6 l7 r8) zt11 (insL (⟨ka, ki, va, vi⟩ : It) (T.node b2 x3 m4 h5 n6 l7 r8).toL) 0 1
          first | exact chg_leaf | (subst_vars; exact ins_R hR hB hS (by assumption) hc) | (subst_vars; exact ins_L hR hB (by assumption) (by have := hN_x; show lessK ka ki _ _; unfold lessK at *; omega))
      · skip
        refine A.region (A.goA [.p, .ld 5, .cq (i_ 0), .p] [(0, (p_ b2)), (1, (.agg #[(u_ ka), (i_ ki)])), (2, (.func (.func 50) #[] #[(p_ bk), (p_ bv)])), (4, (p_ b1)), (6, n_), (18, (b_ ((x3.ka == ka) && (x3.ki == ki)))), (7, (i_ 0))] [b1] (fun κ => κ.call 59 [(p_ b2), (.agg #[(u_ ka), (i_ ki)])] (i_ 0) ∧ True) (by kernel_rfl) ⟨(fun ww ss => side0_spec b2 x3 m4 h5 n6 l7 r8 ka ki (by assumption) ww (ss.mem (i := 0) rfl)), trivial⟩ ?_)
        refine A.tn ?_
        refine A.seq ?_
        refine A.draw2 [10, 14] 15 (by kernel_rfl) ?_
        refine A.drawP 3 [.p, .p, .p, .p, .p, .p, .p, .ld 0, .ld 5, .p, .p, .p] [0, 1, 2, 3, 4, 5, 6, 7, 8, 9, 11, 12] [(0, (p_ b2)), (1, (.agg #[(u_ ka), (i_ ki)])), (2, (.func (.func 50) #[] #[(p_ bk), (p_ bv)])), (4, (p_ b1)), (6, n_), (18, (b_ ((x3.ka == ka) && (x3.ki == ki)))), (7, (i_ 0)), (26, (i_ 0)), (32, (.pointer (T.ptr l7))), (33, (.agg #[(u_ ka), (i_ ki)])), (34, (.func (.func 50) #[] #[(p_ bk), (p_ bv)])), (37, (q_ b2 4))] [b2, b1] T0 (by kernel_rfl) trivial ?_
        refine A.only2 10 rfl (by kernel_rfl) (A.callT (some 35) [(.pointer (T.ptr l7)), (.agg #[(u_ ka), (i_ ki)]), (.func (.func 50) #[] #[(p_ bk), (p_ bv)])] [1, 2, 2] ((fun zt12 => (.pointer (T.ptr zt12)))) ((fun zt12 => Chg l7 zt12 (insL (⟨ka, ki, va, vi⟩ : It) l7.toL) 0 1)) ((fun zt12 => [blk bk [(u_ ka), (i_ ki)] 66, blk bv [(u_ va), (i_ vi)] 66, treeI 92 zt12])) (fun zt12 => [blk bk [(u_ ka), (i_ ki)] 66, blk bv [(u_ va), (i_ vi)] 66, treeI 92 zt12, blk b2 [(u_ x3.ka), (i_ x3.ki), (u_ x3.va), (i_ x3.vi), (.pointer (T.ptr l7)), (.pointer (T.ptr r8)), (u_ m4.ka), (i_ m4.ki), (u_ m4.va), (i_ m4.vi), (i_ h5), (i_ n6)] 92, treeI 92 r8, blk b1 [(u_ ka), (i_ ki)] 66]) (by kernel_rfl) rfl rfl (fun ww ss hh => ih l7 bk bv ka ki va vi (by first | (simp; done) | (simp; omega)) (by first | assumption | omega | exact hS_.1 | exact hS_.2.1) (by first | assumption | omega | exact hS_.1 | exact hS_.2.1) (by first | assumption | omega | exact hS_.1 | exact hS_.2.1) (by first | assumption | omega | exact hS_.1 | exact hS_.2.1) (by first | assumption | omega | exact hS_.1 | exact hS_.2.1) ww hh) (fun _ => rfl) ?_)
        rintro zt12 hz5
        obtain ⟨hz51, hz52, hz53, hz54, hz55⟩ := id hz5; have hz56 := T.Right.pos hz51
        rw [hz53, insL_len] at hz56
        refine A.stage ?_
        refine A.drawP 1 [.p] [13] [(0, (p_ b2)), (1, (.agg #[(u_ ka), (i_ ki)])), (2, (.func (.func 50) #[] #[(p_ bk), (p_ bv)])), (4, (p_ b1)), (6, n_), (18, (b_ ((x3.ka == ka) && (x3.ki == ki)))), (7, (i_ 0)), (35, (.pointer (T.ptr zt12))), (38, (q_ b2 4))] [] T0 (by kernel_rfl) trivial ?_
        refine A.only2 14 rfl (by kernel_rfl) (A.store 3 (vs := [(.pointer (T.ptr zt12))]) [blk bk [(u_ ka), (i_ ki)] 66, blk bv [(u_ va), (i_ vi)] 66, treeI 92 zt12, blk b2 [(u_ x3.ka), (i_ x3.ki), (u_ x3.va), (i_ x3.vi), (.pointer (T.ptr zt12)), (.pointer (T.ptr r8)), (u_ m4.ka), (i_ m4.ki), (u_ m4.va), (i_ m4.vi), (i_ h5), (i_ n6)] 92, treeI 92 r8, blk b1 [(u_ ka), (i_ ki)] 66] (by kernel_rfl) rfl rfl rfl rfl (by kernel_rfl) rfl rfl (by kernel_rfl) rfl ?_)
        refine A.stage ?_
        refine A.fin2 (by kernel_rfl) ?_
        refine A.sub [(0, (p_ b2)), (1, (.agg #[(u_ ka), (i_ ki)])), (2, (.func (.func 50) #[] #[(p_ bk), (p_ bv)])), (4, (p_ b1)), (6, n_), (18, (b_ ((x3.ka == ka) && (x3.ki == ki)))), (7, (i_ 0))] (by exact ⟨rfl, rfl, rfl, rfl, rfl, rfl, rfl, trivial⟩) ?_
        refine A.tn ?_
        refine A.seq ?_
        refine A.region (A.goP [.p] [(0, (p_ b2)), (1, (.agg #[(u_ ka), (i_ ki)])), (2, (.func (.func 50) #[] #[(p_ bk), (p_ bv)])), (4, (p_ b1)), (6, n_), (18, (b_ ((x3.ka == ka) && (x3.ki == ki)))), (7, (i_ 0)), (39, (p_ b2))] [] T0 (by kernel_rfl) trivial ?_)
        refine A.cons (A.callT (some 40) [(p_ b2)] [3, 2, 2] ((fun zt13 => (.pointer (T.ptr zt13)))) ((fun zt13 => zt13 = balT b2 x3 zt12 r8)) ((fun zt13 => [treeI 92 zt13])) (fun zt13 => [treeI 92 zt13, blk bk [(u_ ka), (i_ ki)] 66, blk bv [(u_ va), (i_ vi)] 66, blk b1 [(u_ ka), (i_ ki)] 66]) (by kernel_rfl) rfl rfl (fun ww ss hh => balance_spec b2 x3 m4 h5 n6 zt12 r8 (by first | assumption | omega | exact hS_.1 | exact hS_.2.1) (by first | assumption | omega | exact hS_.1 | exact hS_.2.1) (by first | assumption | omega | exact hS_.1 | exact hS_.2.1) (by first | assumption | omega | exact hS_.1 | exact hS_.2.1) ww hh) (fun _ => rfl) ?_)
        rintro zt13 hz6
        refine A.goA [.p] [(0, (p_ b2)), (1, (.agg #[(u_ ka), (i_ ki)])), (2, (.func (.func 50) #[] #[(p_ bk), (p_ bv)])), (4, (p_ b1)), (6, (.pointer (T.ptr zt13))), (18, (b_ ((x3.ka == ka) && (x3.ki == ki)))), (7, (i_ 0))] [] T0 (by kernel_rfl) trivial ?_
        refine A.tn ?_
        refine A.ret ?_
        refine A.postK [1, 1, 0] [(.pointer (T.ptr zt13))] (fun aa ww rr ss => ⟨rv_tmp rr rfl, trivial⟩) (zt13) ?_ ?_ (by kernel_rfl)
        · rfl
        · show Chg (T.node b2 x3 m4 h5 n6 l7 r8) zt13 (insL (⟨ka, ki, va, vi⟩ : It) (T.node b2 x3 m4 h5 n6 l7 r8).toL) 0 1
          first | exact chg_leaf | (subst_vars; exact ins_R hR hB hS (by assumption) hc) | (subst_vars; exact ins_L hR hB (by assumption) (by have := hN_x; show lessK ka ki _ _; unfold lessK at *; omega))

theorem change_ins  (t : T) (bk bv : Nat) (ka ki va vi : Int) (hR : t.Right) (hB : t.Bal) (hS : Srt t.toL) (hN : ∀ y ∈ t.toL, ¬ (y.ka = ka ∧ y.ki = ki)) (hC : t.cnt ≤ 800) (w : World) (hs : HS w (feet [treeI 92 t, blk bk [(u_ ka), (i_ ki)] 66, blk bv [(u_ va), (i_ vi)] 66]) [treeI 92 t, blk bk [(u_ ka), (i_ ki)] 66, blk bv [(u_ va), (i_ vi)] 66] w) :
    Calls Try.prog 48 #[(.pointer (T.ptr t)), (.agg #[(u_ ka), (i_ ki)]), (.func (.func 50) #[] #[(p_ bk), (p_ bv)])] w fun e w' => ∃ zz, e = .returned ((fun (zt : T) => (.pointer (T.ptr zt))) zz) ∧ (fun (zt : T) => Chg t zt (insL (⟨ka, ki, va, vi⟩ : It) t.toL) 0 1) zz ∧ Turn [treeI 92 t, blk bk [(u_ ka), (i_ ki)] 66, blk bv [(u_ va), (i_ vi)] 66] ((fun (zt : T) => [blk bk [(u_ ka), (i_ ki)] 66, blk bv [(u_ va), (i_ vi)] 66, treeI 92 zt]) zz) w w' :=
  change_ins_step t bk bv ka ki va vi (fun t' bk' bv' ka' ki' va' vi' hlt_ g0_ g1_ g2_ g3_ g4_ w_  y_ => change_ins t' bk' bv' ka' ki' va' vi' g0_ g1_ g2_ g3_ g4_ w_  y_) hR hB hS hN hC w  hs
termination_by SizeOf.sizeOf t
decreasing_by exact hlt_
end Go.Proofs.Ytdhcglflmkjneaa
