/- What the functions of this layer do, proved operation by operation, for all arguments, under the conditions that each theorem states. -/
import Derived.Test.YtdhcglflmkjneaaProg
import Derived.Test.YtdhcglflmkjneaaAvl4
namespace Go.Proofs.Ytdhcglflmkjneaa
open Go V
set_option linter.unusedVariables false
set_option linter.unusedSimpArgs false


set_option maxHeartbeats 4000000 in
set_option maxRecDepth 100000 in
theorem without_step (b : Nat) (x m : It) (h n : Int) (l r : T) (ih : ∀ (t' : T) (ka' ki' : Int), SizeOf.sizeOf t' < SizeOf.sizeOf (T.node b x m h n l r) → ∀ (hR : t'.Right) (hB : t'.Bal) (hS : Srt t'.toL) (hM : ∃ y ∈ t'.toL, y.ka = ka' ∧ y.ki = ki') (hC : t'.cnt ≤ 800) (w : World) (hs : HS w (feet [treeI 92 t']) [treeI 92 t'] w), Calls Try.prog 48 #[(.pointer (T.ptr t')), (.agg #[(u_ ka'), (i_ ki')]), (.func (.func 49) #[] #[])] w fun e w' => ∃ zz, e = .returned ((fun (zt : T) => (.pointer (T.ptr zt))) zz) ∧ (fun (zt : T) => Chg t' zt (delL ka' ki' t'.toL) (-1) 0) zz ∧ Turn [treeI 92 t'] ((fun (zt : T) => [treeI 92 zt]) zz) w w')  (hR : (T.node b x m h n l r).Right) (hB : (T.node b x m h n l r).Bal) (hS : Srt (T.node b x m h n l r).toL) (hC : (T.node b x m h n l r).cnt ≤ 800) (w : World) (hs : HS w (feet [treeI 92 (T.node b x m h n l r)]) [treeI 92 (T.node b x m h n l r)] w) :
    Calls Try.prog 49 #[(p_ b)] w fun e w' => ∃ zz, e = .returned ((fun (zt : T) => (.pointer (T.ptr zt))) zz) ∧ (fun (zt : T) => Chg (T.node b x m h n l r) zt (l.toL ++ r.toL) (-1) 0) zz ∧ Turn [treeI 92 (T.node b x m h n l r)] ((fun (zt : T) => [treeI 92 zt]) zz) w w' := by
  obtain ⟨hR_m, hR_h, hR_n, hR_l, hR_r⟩ := id hR; obtain ⟨hB_1, hB_2, hB_l, hB_r⟩ := id hB; have hS_ := srt_mid (L := T.toL l) (x := x) (R := T.toL r) hS; have hR_1 := hR_l.pos; have hR_2 := hR_r.pos; simp only [hgt_node, cnt_node, mkH, mkN] at hR_h hR_n hC
  refine calls_of (args := [(p_ b)]) (penv [(p_ b)]) (feet [treeI 92 (T.node b x m h n l r)]) [treeI 92 (T.node b x m h n l r)] Try.func49 rfl rfl (look_penv _) hs ?_
  refine A.norm [(0, (p_ b))] [treeI 92 (T.node b x m h n l r)] (by exact ⟨rfl, trivial⟩) rfl ?_
  refine A.seq ?_
  refine A.region (A.goA [.p] [(0, (p_ b)), (2, n_)] [] T0 (by kernel_rfl) trivial ?_)
  refine A.tn ?_
  refine A.seq ?_
  refine A.seq ?_
  refine A.region (A.goP [.p, .p, .p, .p] [(0, (p_ b)), (2, n_), (7, (q_ b 5))] [] T0 (by kernel_rfl) trivial ?_)
  refine A.reshape [0] (fun _ : Unit => True) (fun _ => [blk b [(u_ x.ka), (i_ x.ki), (u_ x.va), (i_ x.vi), (.pointer (T.ptr l)), (.pointer (T.ptr r)), (u_ m.ka), (i_ m.ki), (u_ m.va), (i_ m.vi), (i_ h), (i_ n)] 92, treeI 92 l, treeI 92 r]) (fun _ => [blk b [(u_ x.ka), (i_ x.ki), (u_ x.va), (i_ x.vi), (.pointer (T.ptr l)), (.pointer (T.ptr r)), (u_ m.ka), (i_ m.ki), (u_ m.va), (i_ m.vi), (i_ h), (i_ n)] 92, treeI 92 l, treeI 92 r]) rfl (fun w hs => tree_open hs) (fun _ => rfl) (fun _ _ => ?_)
  refine A.goP [.ld 0] [(0, (p_ b)), (2, n_), (8, (.pointer (T.ptr r)))] [b] T0 (by kernel_rfl) trivial ?_
  rcases r with _ | ⟨b1, x2, m3, h4, n5, l6, r7⟩
  · skip
    refine A.goA [.p] [(0, (p_ b)), (2, n_), (9, (b_ true))] [] T0 (by kernel_rfl) trivial ?_
    refine A.tn ?_
    refine A.cond_t rfl ?_
    refine A.seq ?_
    refine A.region (A.goA [.p, .p, .p, .p, .ld 0, .p] [(0, (p_ b)), (2, (.pointer (T.ptr l))), (9, (b_ true))] [b] T0 (by kernel_rfl) trivial ?_)
    refine A.tn ?_
    refine A.ret ?_
    refine A.tr ?_
    refine A.postK [1] [(.pointer (T.ptr l))] (fun aa ww rr ss => ⟨rv_tmp rr rfl, trivial⟩) (l) ?_ ?_ (by kernel_rfl)
    · rfl
    · show Chg (T.node b x m h n l T.nil) l (l.toL ++ T.nil.toL) (-1) 0
      first | exact del_nil hR hB | (subst_vars; exact del_mid hR hB hS_.2.1 (hhd.symm.trans (by simp [T.toL])) (by assumption))
  · skip
    refine A.goA [.p] [(0, (p_ b)), (2, n_), (9, (b_ false))] [] T0 (by kernel_rfl) trivial ?_
    refine A.tn ?_
    refine A.cond_f rfl ?_
    refine A.skip ?_
    refine A.tn ?_
    refine A.seq ?_
    refine A.region (A.goA [.p, .p, .p, .p, .ld 0, .p] [(0, (p_ b)), (2, n_), (9, (b_ false)), (3, (p_ b1))] [b] T0 (by kernel_rfl) trivial ?_)
    refine A.tn ?_
    refine A.seq ?_
    refine A.block ?_
    refine A.loop (fun (zz : T) => match zz with | u => [(0, (p_ b)), (2, n_), (3, (.pointer (T.ptr u)))]) (fun (zz : T) => match zz with | u => [blk b [(u_ x.ka), (i_ x.ki), (u_ x.va), (i_ x.vi), (.pointer (T.ptr l)), (p_ b1), (u_ m.ka), (i_ m.ki), (u_ m.va), (i_ m.vi), (i_ h), (i_ n)] 92, treeI 92 l, treeI 92 (T.node b1 x2 m3 h4 n5 l6 r7)]) (fun (zz : T) => match zz with | u => (∀ w, (treeI 92 (T.node b1 x2 m3 h4 n5 l6 r7)).holds w → (treeI 92 u).holds w) ∧ (u.toL.head? = (T.toL (T.node b1 x2 m3 h4 n5 l6 r7)).head?) ∧ (u ≠ .nil)) (fun (zz : T) => match zz with | u => SizeOf.sizeOf u) ((T.node b1 x2 m3 h4 n5 l6 r7) : T) ⟨(by exact fun _ h => h), (by rfl), (by simp)⟩ ?_ ?_
    · exact A.hereK [0, 0, 0] (by exact ⟨rfl, rfl, rfl, trivial⟩) (by kernel_rfl)
    · rintro u ⟨hv, hhd, hu⟩
      refine A.norm [(0, (p_ b)), (2, n_), (3, (.pointer (T.ptr u)))] [blk b [(u_ x.ka), (i_ x.ki), (u_ x.va), (i_ x.vi), (.pointer (T.ptr l)), (p_ b1), (u_ m.ka), (i_ m.ki), (u_ m.va), (i_ m.vi), (i_ h), (i_ n)] 92, treeI 92 l, treeI 92 (T.node b1 x2 m3 h4 n5 l6 r7)] (by exact ⟨rfl, rfl, rfl, trivial⟩) rfl ?_
      refine A.seq ?_
      refine A.seq ?_
      refine A.region (A.goP [.p] [(0, (p_ b)), (2, n_), (3, (.pointer (T.ptr u))), (20, (.pointer (T.ptr u)))] [] T0 (by kernel_rfl) trivial ?_)
      rcases u with _ | ⟨b8, x9, m10, h11, n12, l13, r14⟩
      · skip
        exact absurd rfl hu
      · skip
        refine A.goP [.p, .p, .p, .rd [(.pointer (T.ptr l13))]] [(0, (p_ b)), (2, n_), (3, (p_ b8)), (24, (.pointer (T.ptr l13)))] [] (fun κ => κ.rd ⟨b8, 4, none⟩ [(.pointer (T.ptr l13))] ∧ True) (by kernel_rfl) ⟨(reads_view (fun ww ss => (hv _ (ss.mem (i := 2) rfl)).1) rfl), trivial⟩ ?_
        rcases l13 with _ | ⟨b15, x16, m17, h18, n19, l20, r21⟩
        · skip
          refine A.goA [.p] [(0, (p_ b)), (2, n_), (3, (p_ b8)), (25, (b_ false))] [] T0 (by kernel_rfl) trivial ?_
          refine A.tn ?_
          refine A.cond_f rfl ?_
          refine A.exit ?_
          refine A.te ?_
          refine A.te ?_
          refine A.bh ?_
          refine A.tn ?_
          refine A.seq ?_
          refine A.region (A.goAS [.p, .p, .p, .p, .rd [(u_ x9.ka), (i_ x9.ki), (u_ x9.va), (i_ x9.vi)], .p, .p, .st 0] [(0, (p_ b)), (2, n_), (3, (p_ b8)), (25, (b_ false))] [blk b [(u_ x9.ka), (i_ x9.ki), (u_ x9.va), (i_ x9.vi), (.pointer (T.ptr l)), (p_ b1), (u_ m.ka), (i_ m.ki), (u_ m.va), (i_ m.vi), (i_ h), (i_ n)] 92, treeI 92 l, treeI 92 (T.node b1 x2 m3 h4 n5 l6 r7)] [b] (fun κ => κ.rd ⟨b8, 0, none⟩ [(u_ x9.ka), (i_ x9.ki), (u_ x9.va), (i_ x9.vi)] ∧ True) (by kernel_rfl) ⟨(reads_view (fun ww ss => (hv _ (ss.mem (i := 2) rfl)).1) rfl), trivial⟩ ?_)
          refine A.tn ?_
          refine A.seq ?_
          refine A.draw2 [11, 15] 16 (by kernel_rfl) ?_
          refine A.drawP 3 [.p, .p, .p, .p, .p, .ld 0, .p, .p, .p, .p, .rd [(u_ x9.ka), (i_ x9.ki)], .p, .p] [0, 1, 2, 3, 4, 5, 6, 7, 8, 9, 10, 12, 13] [(0, (p_ b)), (2, n_), (3, (p_ b8)), (25, (b_ false)), (43, (p_ b1)), (48, (.agg #[(u_ x9.ka), (i_ x9.ki)])), (51, (q_ b 4))] [b] (fun κ => κ.rd ⟨b8, 0, none⟩ [(u_ x9.ka), (i_ x9.ki)] ∧ True) (by kernel_rfl) ⟨(reads_view (fun ww ss => (hv _ (ss.mem (i := 2) rfl)).1) rfl), trivial⟩ ?_
          refine A.only2 11 rfl (by kernel_rfl) (A.callT (some 49) [(p_ b1), (.agg #[(u_ x9.ka), (i_ x9.ki)]), (.func (.func 49) #[] #[])] [2] ((fun zt22 => (.pointer (T.ptr zt22)))) ((fun zt22 => Chg (T.node b1 x2 m3 h4 n5 l6 r7) zt22 (delL x9.ka x9.ki (T.node b1 x2 m3 h4 n5 l6 r7).toL) (-1) 0)) ((fun zt22 => [treeI 92 zt22])) (fun zt22 => [treeI 92 zt22, blk b [(u_ x9.ka), (i_ x9.ki), (u_ x9.va), (i_ x9.vi), (.pointer (T.ptr l)), (p_ b1), (u_ m.ka), (i_ m.ki), (u_ m.va), (i_ m.vi), (i_ h), (i_ n)] 92, treeI 92 l]) (by kernel_rfl) rfl rfl (fun ww ss hh => ih (T.node b1 x2 m3 h4 n5 l6 r7) x9.ka x9.ki (by first | (simp; done) | (simp; omega)) (by first | assumption | omega | exact hS_.2.1 | exact ⟨_, head_mem (hhd.symm.trans (by simp [T.toL])), rfl, rfl⟩) (by first | assumption | omega | exact hS_.2.1 | exact ⟨_, head_mem (hhd.symm.trans (by simp [T.toL])), rfl, rfl⟩) (by first | assumption | omega | exact hS_.2.1 | exact ⟨_, head_mem (hhd.symm.trans (by simp [T.toL])), rfl, rfl⟩) (by first | assumption | omega | exact hS_.2.1 | exact ⟨_, head_mem (hhd.symm.trans (by simp [T.toL])), rfl, rfl⟩) (by first | assumption | omega | exact hS_.2.1 | exact ⟨_, head_mem (hhd.symm.trans (by simp [T.toL])), rfl, rfl⟩) ww hh) (fun _ => rfl) ?_)
          rintro zt22 hz1
          obtain ⟨hz11, hz12, hz13, hz14, hz15⟩ := id hz1; have hz16 := T.Right.pos hz11
          rw [hz13] at hz16; have hz17 := delL_len (a := x9.ka) (i := x9.ki) (T.toL (T.node b1 x2 m3 h4 n5 l6 r7))
          refine A.stage ?_
          refine A.drawP 1 [.p] [14] [(0, (p_ b)), (2, n_), (3, (p_ b8)), (25, (b_ false)), (49, (.pointer (T.ptr zt22))), (52, (q_ b 5))] [] T0 (by kernel_rfl) trivial ?_
          refine A.only2 15 rfl (by kernel_rfl) (A.store 1 (vs := [(.pointer (T.ptr zt22))]) [treeI 92 zt22, blk b [(u_ x9.ka), (i_ x9.ki), (u_ x9.va), (i_ x9.vi), (.pointer (T.ptr l)), (.pointer (T.ptr zt22)), (u_ m.ka), (i_ m.ki), (u_ m.va), (i_ m.vi), (i_ h), (i_ n)] 92, treeI 92 l] (by kernel_rfl) rfl rfl rfl rfl (by kernel_rfl) rfl rfl (by kernel_rfl) rfl ?_)
          refine A.stage ?_
          refine A.fin2 (by kernel_rfl) ?_
          refine A.sub [(0, (p_ b)), (2, n_), (3, (p_ b8)), (25, (b_ false))] (by exact ⟨rfl, rfl, rfl, rfl, trivial⟩) ?_
          refine A.tn ?_
          refine A.seq ?_
          refine A.region (A.goP [.p] [(0, (p_ b)), (2, n_), (3, (p_ b8)), (25, (b_ false)), (53, (p_ b))] [] T0 (by kernel_rfl) trivial ?_)
          refine A.cons (A.callT (some 54) [(p_ b)] [1, 1, 0] ((fun zt23 => (.pointer (T.ptr zt23)))) ((fun zt23 => zt23 = balT b x9 l zt22)) ((fun zt23 => [treeI 92 zt23])) (fun zt23 => [treeI 92 zt23]) (by kernel_rfl) rfl rfl (fun ww ss hh => balance_spec b x9 m h n l zt22 (by first | assumption | omega | exact hS_.2.1 | exact ⟨_, head_mem (hhd.symm.trans (by simp [T.toL])), rfl, rfl⟩) (by first | assumption | omega | exact hS_.2.1 | exact ⟨_, head_mem (hhd.symm.trans (by simp [T.toL])), rfl, rfl⟩) (by first | assumption | omega | exact hS_.2.1 | exact ⟨_, head_mem (hhd.symm.trans (by simp [T.toL])), rfl, rfl⟩) (by first | assumption | omega | exact hS_.2.1 | exact ⟨_, head_mem (hhd.symm.trans (by simp [T.toL])), rfl, rfl⟩) ww hh) (fun _ => rfl) ?_)
          rintro zt23 hz2
          refine A.goA [.p] [(0, (p_ b)), (2, (.pointer (T.ptr zt23))), (3, (p_ b8)), (25, (b_ false))] [] T0 (by kernel_rfl) trivial ?_
          refine A.tn ?_
          refine A.ret ?_
          refine A.postK [0] [(.pointer (T.ptr zt23))] (fun aa ww rr ss => ⟨rv_tmp rr rfl, trivial⟩) (zt23) ?_ ?_ (by kernel_rfl)
          · rfl
          · show Chg (T.node b x m h n l (T.node b1 x2 m3 h4 n5 l6 r7)) zt23 (l.toL ++ (T.node b1 x2 m3 h4 n5 l6 r7).toL) (-1) 0
            first | exact del_nil hR hB | (subst_vars; exact del_mid hR hB hS_.2.1 (hhd.symm.trans (by simp [T.toL])) (by assumption))
        · skip
          refine A.goA [.p] [(0, (p_ b)), (2, n_), (3, (p_ b8)), (25, (b_ true))] [] T0 (by kernel_rfl) trivial ?_
          refine A.tn ?_
          refine A.cond_t rfl ?_
          refine A.skip ?_
          refine A.tn ?_
          refine A.block ?_
          refine A.region (A.goA [.p, .p, .p, .p, .rd [(p_ b15)], .p] [(0, (p_ b)), (2, n_), (3, (p_ b15)), (25, (b_ true))] [] (fun κ => κ.rd ⟨b8, 4, none⟩ [(p_ b15)] ∧ True) (by kernel_rfl) ⟨(reads_view (fun ww ss => (hv _ (ss.mem (i := 2) rfl)).1) rfl), trivial⟩ ?_)
          refine A.bn ?_
          refine A.tn ?_
          refine A.next ((T.node b15 x16 m17 h18 n19 l20 r21)) ⟨(by exact fun w hw => (hv w hw).2.1), (by rw [← hhd]; simp only [T.toL]; simp), (by simp)⟩ (by first | (simp; done) | (simp; omega)) ?_
          exact A.hereK [0, 0, 0] (by exact ⟨rfl, rfl, rfl, trivial⟩) (by kernel_rfl)

set_option maxHeartbeats 4000000 in
set_option maxRecDepth 100000 in
theorem change_wo_step (t : T) (ka ki : Int) (ih : ∀ (t' : T) (ka' ki' : Int), SizeOf.sizeOf t' < SizeOf.sizeOf t → ∀ (hR : t'.Right) (hB : t'.Bal) (hS : Srt t'.toL) (hM : ∃ y ∈ t'.toL, y.ka = ka' ∧ y.ki = ki') (hC : t'.cnt ≤ 800) (w : World) (hs : HS w (feet [treeI 92 t']) [treeI 92 t'] w), Calls Try.prog 48 #[(.pointer (T.ptr t')), (.agg #[(u_ ka'), (i_ ki')]), (.func (.func 49) #[] #[])] w fun e w' => ∃ zz, e = .returned ((fun (zt : T) => (.pointer (T.ptr zt))) zz) ∧ (fun (zt : T) => Chg t' zt (delL ka' ki' t'.toL) (-1) 0) zz ∧ Turn [treeI 92 t'] ((fun (zt : T) => [treeI 92 zt]) zz) w w')  (hR : t.Right) (hB : t.Bal) (hS : Srt t.toL) (hM : ∃ y ∈ t.toL, y.ka = ka ∧ y.ki = ki) (hC : t.cnt ≤ 800) (w : World) (hs : HS w (feet [treeI 92 t]) [treeI 92 t] w) :
    Calls Try.prog 48 #[(.pointer (T.ptr t)), (.agg #[(u_ ka), (i_ ki)]), (.func (.func 49) #[] #[])] w fun e w' => ∃ zz, e = .returned ((fun (zt : T) => (.pointer (T.ptr zt))) zz) ∧ (fun (zt : T) => Chg t zt (delL ka ki t.toL) (-1) 0) zz ∧ Turn [treeI 92 t] ((fun (zt : T) => [treeI 92 zt]) zz) w w' := by
  refine calls_of (args := [(.pointer (T.ptr t)), (.agg #[(u_ ka), (i_ ki)]), (.func (.func 49) #[] #[])]) (penv [(.pointer (T.ptr t)), (.agg #[(u_ ka), (i_ ki)]), (.func (.func 49) #[] #[])]) (feet [treeI 92 t]) [treeI 92 t] Try.func48 rfl rfl (look_penv _) hs ?_
  refine A.norm [(0, (.pointer (T.ptr t))), (1, (.agg #[(u_ ka), (i_ ki)])), (2, (.func (.func 49) #[] #[]))] [treeI 92 t] (by exact ⟨rfl, rfl, rfl, trivial⟩) rfl ?_
  refine A.seq ?_
  refine A.region (A.goA1 [.al, .p] [0, 1, 2, 4, 6] (fun b1 => [(0, (.pointer (T.ptr t))), (1, (.agg #[(u_ ka), (i_ ki)])), (2, (.func (.func 49) #[] #[])), (4, (p_ b1)), (6, n_)]) (fun b1 => [treeI 92 t, blk b1 [(u_ ka), (i_ ki)] 66]) (fun b1 => []) (fun _ => T0) (fun _ => by kernel_rfl) (fun b1 => trivial) ?_)
  intro b1
  refine A.tn ?_
  refine A.seq ?_
  refine A.seq ?_
  rcases t with _ | ⟨b2, x3, m4, h5, n6, l7, r8⟩
  · skip
    exact absurd hM (by simp [T.toL])
  · skip
    obtain ⟨hR_m, hR_h, hR_n, hR_l, hR_r⟩ := id hR; obtain ⟨hB_1, hB_2, hB_l, hB_r⟩ := id hB
    have hS_ := srt_mid (L := T.toL l7) (x := x3) (R := T.toL r8) hS; have hR_1 := hR_l.pos; have hR_2 := hR_r.pos
    have hC0 := hC; simp only [hgt_node, cnt_node, mkH, mkN] at hR_h hR_n hC
    refine A.reshape [0] (fun _ : Unit => True) (fun _ => [blk b2 [(u_ x3.ka), (i_ x3.ki), (u_ x3.va), (i_ x3.vi), (.pointer (T.ptr l7)), (.pointer (T.ptr r8)), (u_ m4.ka), (i_ m4.ki), (u_ m4.va), (i_ m4.vi), (i_ h5), (i_ n6)] 92, treeI 92 l7, treeI 92 r8]) (fun _ => [blk b2 [(u_ x3.ka), (i_ x3.ki), (u_ x3.va), (i_ x3.vi), (.pointer (T.ptr l7)), (.pointer (T.ptr r8)), (u_ m4.ka), (i_ m4.ki), (u_ m4.va), (i_ m4.vi), (i_ h5), (i_ n6)] 92, treeI 92 l7, treeI 92 r8, blk b1 [(u_ ka), (i_ ki)] 66]) rfl (fun w hs => tree_open hs) (fun _ => rfl) (fun _ _ => ?_)
    refine A.drawA [.p, .p, .p, .p, .p, .p, .p, .ld 0, .ld 3, .eq, .p] [0, 1, 2, 3, 4, 5, 6, 7, 8, 9, 10] [(0, (p_ b2)), (1, (.agg #[(u_ ka), (i_ ki)])), (2, (.func (.func 49) #[] #[])), (4, (p_ b1)), (6, n_), (18, (b_ ((x3.ka == ka) && (x3.ki == ki))))] [b2, b1] T0 (by kernel_rfl) (by kernel_rfl) trivial ?_
    refine A.tn ?_
    refine A.cond (E := (x3.ka == ka) && (x3.ki == ki)) rfl (fun e1 => ?_) (fun e1 => ?_)
    · skip
      have p1 := e1; try simp only [decide_eq_true_eq, decide_eq_false_iff_not, beq_iff_eq, beq_eq_false_iff_ne, bne_iff_ne, bne_eq_false_iff_eq, ne_eq, Bool.and_eq_true, Bool.or_eq_true, Bool.or_eq_false_iff, Bool.not_eq_true', Bool.not_eq_false', Int.not_lt, Int.not_le, gt_iff_lt, ge_iff_le, Classical.not_not] at p1
      refine A.seq ?_
      refine A.region (A.goP [.p, .p] [(0, (p_ b2)), (1, (.agg #[(u_ ka), (i_ ki)])), (2, (.func (.func 49) #[] #[])), (4, (p_ b1)), (6, n_), (18, (b_ ((x3.ka == ka) && (x3.ki == ki)))), (19, (.func (.func 49) #[] #[])), (20, (p_ b2))] [] T0 (by kernel_rfl) trivial ?_)
      refine A.reshape [0, 0, 0] (fun _ : Unit => True) (fun _ => [treeI 92 (T.node b2 x3 m4 h5 n6 l7 r8)]) (fun _ => [treeI 92 (T.node b2 x3 m4 h5 n6 l7 r8), blk b1 [(u_ ka), (i_ ki)] 66]) rfl (fun w hs => tree_fold hs) (fun _ => rfl) (fun _ _ => ?_)
      refine A.cons (A.callT (some 21) [(p_ b2)] [0] ((fun zt9 => (.pointer (T.ptr zt9)))) ((fun zt9 => Chg (T.node b2 x3 m4 h5 n6 l7 r8) zt9 (l7.toL ++ r8.toL) (-1) 0)) ((fun zt9 => [treeI 92 zt9])) (fun zt9 => [treeI 92 zt9, blk b1 [(u_ ka), (i_ ki)] 66]) (by kernel_rfl) rfl rfl (fun ww ss hh => without_step b2 x3 m4 h5 n6 l7 r8 ih (by first | assumption | omega | exact hS_.1 | exact hS_.2.1 | exact mem_R hS hM hc | exact mem_L hS hM hc (by intro he_; simp_all)) (by first | assumption | omega | exact hS_.1 | exact hS_.2.1 | exact mem_R hS hM hc | exact mem_L hS hM hc (by intro he_; simp_all)) (by first | assumption | omega | exact hS_.1 | exact hS_.2.1 | exact mem_R hS hM hc | exact mem_L hS hM hc (by intro he_; simp_all)) (by first | assumption | omega | exact hS_.1 | exact hS_.2.1 | exact mem_R hS hM hc | exact mem_L hS hM hc (by intro he_; simp_all)) ww hh) (fun _ => rfl) ?_)
      rintro zt9 hz2
      obtain ⟨hz21, hz22, hz23, hz24, hz25⟩ := id hz2; have hz26 := T.Right.pos hz21
      rw [hz23] at hz26
      refine A.goA [.p] [(0, (p_ b2)), (1, (.agg #[(u_ ka), (i_ ki)])), (2, (.func (.func 49) #[] #[])), (4, (p_ b1)), (6, (.pointer (T.ptr zt9))), (18, (b_ ((x3.ka == ka) && (x3.ki == ki))))] [] T0 (by kernel_rfl) trivial ?_
      refine A.tn ?_
      refine A.ret ?_
      refine A.tr ?_
      refine A.postK [0] [(.pointer (T.ptr zt9))] (fun aa ww rr ss => ⟨rv_tmp rr rfl, trivial⟩) (zt9) ?_ ?_ (by kernel_rfl)
      · rfl
      · show Chg (T.node b2 x3 m4 h5 n6 l7 r8) zt9 (delL ka ki (T.node b2 x3 m4 h5 n6 l7 r8).toL) (-1) 0
        first | (rw [delL_key hS (by assumption)]; assumption) | (subst_vars; exact del_R hR hB hS (by assumption) hc) | (subst_vars; exact del_L hR hB hS (by assumption) (by intro he_; simp_all) hc)
    · skip
      have p1 := e1; try simp only [decide_eq_true_eq, decide_eq_false_iff_not, beq_iff_eq, beq_eq_false_iff_ne, bne_iff_ne, bne_eq_false_iff_eq, ne_eq, Bool.and_eq_true, Bool.or_eq_true, Bool.or_eq_false_iff, Bool.not_eq_true', Bool.not_eq_false', Int.not_lt, Int.not_le, gt_iff_lt, ge_iff_le, Classical.not_not] at p1
      refine A.skip ?_
      refine A.tn ?_
      refine A.seq ?_
      by_cases hc : lessK x3.ka x3.ki ka ki
      · skip
        refine A.region (A.goA [.p, .ld 3, .cq (i_ 1), .p] [(0, (p_ b2)), (1, (.agg #[(u_ ka), (i_ ki)])), (2, (.func (.func 49) #[] #[])), (4, (p_ b1)), (6, n_), (18, (b_ ((x3.ka == ka) && (x3.ki == ki)))), (7, (i_ 1))] [b1] (fun κ => κ.call 59 [(p_ b2), (.agg #[(u_ ka), (i_ ki)])] (i_ 1) ∧ True) (by kernel_rfl) ⟨(fun ww ss => side1_spec b2 x3 m4 h5 n6 l7 r8 ka ki (by assumption) ww (ss.mem (i := 0) rfl)), trivial⟩ ?_)
        refine A.tn ?_
        refine A.seq ?_
        refine A.draw2 [10, 14] 15 (by kernel_rfl) ?_
        refine A.drawP 3 [.p, .p, .p, .p, .p, .p, .p, .ld 0, .ld 3, .p, .p, .p] [0, 1, 2, 3, 4, 5, 6, 7, 8, 9, 11, 12] [(0, (p_ b2)), (1, (.agg #[(u_ ka), (i_ ki)])), (2, (.func (.func 49) #[] #[])), (4, (p_ b1)), (6, n_), (18, (b_ ((x3.ka == ka) && (x3.ki == ki)))), (7, (i_ 1)), (26, (i_ 1)), (32, (.pointer (T.ptr r8))), (33, (.agg #[(u_ ka), (i_ ki)])), (34, (.func (.func 49) #[] #[])), (37, (q_ b2 4))] [b2, b1] T0 (by kernel_rfl) trivial ?_
        refine A.only2 10 rfl (by kernel_rfl) (A.callT (some 35) [(.pointer (T.ptr r8)), (.agg #[(u_ ka), (i_ ki)]), (.func (.func 49) #[] #[])] [2] ((fun zt10 => (.pointer (T.ptr zt10)))) ((fun zt10 => Chg r8 zt10 (delL ka ki r8.toL) (-1) 0)) ((fun zt10 => [treeI 92 zt10])) (fun zt10 => [treeI 92 zt10, blk b2 [(u_ x3.ka), (i_ x3.ki), (u_ x3.va), (i_ x3.vi), (.pointer (T.ptr l7)), (.pointer (T.ptr r8)), (u_ m4.ka), (i_ m4.ki), (u_ m4.va), (i_ m4.vi), (i_ h5), (i_ n6)] 92, treeI 92 l7, blk b1 [(u_ ka), (i_ ki)] 66]) (by kernel_rfl) rfl rfl (fun ww ss hh => ih r8 ka ki (by first | (simp; done) | (simp; omega)) (by first | assumption | omega | exact hS_.1 | exact hS_.2.1 | exact mem_R hS hM hc | exact mem_L hS hM hc (by intro he_; simp_all)) (by first | assumption | omega | exact hS_.1 | exact hS_.2.1 | exact mem_R hS hM hc | exact mem_L hS hM hc (by intro he_; simp_all)) (by first | assumption | omega | exact hS_.1 | exact hS_.2.1 | exact mem_R hS hM hc | exact mem_L hS hM hc (by intro he_; simp_all)) (by first | assumption | omega | exact hS_.1 | exact hS_.2.1 | exact mem_R hS hM hc | exact mem_L hS hM hc (by intro he_; simp_all)) (by first | assumption | omega | exact hS_.1 | exact hS_.2.1 | exact mem_R hS hM hc | exact mem_L hS hM hc (by intro he_; simp_all)) ww hh) (fun _ => rfl) ?_)
        rintro zt10 hz3
        obtain ⟨hz31, hz32, hz33, hz34, hz35⟩ := id hz3; have hz36 := T.Right.pos hz31
        rw [hz33] at hz36; have hz37 := delL_len (a := ka) (i := ki) (T.toL r8)
        refine A.stage ?_
        refine A.drawP 1 [.p] [13] [(0, (p_ b2)), (1, (.agg #[(u_ ka), (i_ ki)])), (2, (.func (.func 49) #[] #[])), (4, (p_ b1)), (6, n_), (18, (b_ ((x3.ka == ka) && (x3.ki == ki)))), (7, (i_ 1)), (35, (.pointer (T.ptr zt10))), (38, (q_ b2 5))] [] T0 (by kernel_rfl) trivial ?_
        refine A.only2 14 rfl (by kernel_rfl) (A.store 1 (vs := [(.pointer (T.ptr zt10))]) [treeI 92 zt10, blk b2 [(u_ x3.ka), (i_ x3.ki), (u_ x3.va), (i_ x3.vi), (.pointer (T.ptr l7)), (.pointer (T.ptr zt10)), (u_ m4.ka), (i_ m4.ki), (u_ m4.va), (i_ m4.vi), (i_ h5), (i_ n6)] 92, treeI 92 l7, blk b1 [(u_ ka), (i_ ki)] 66] (by kernel_rfl) rfl rfl rfl rfl (by kernel_rfl) rfl rfl (by kernel_rfl) rfl ?_)
        refine A.stage ?_
        refine A.fin2 (by kernel_rfl) ?_
        refine A.sub [(0, (p_ b2)), (1, (.agg #[(u_ ka), (i_ ki)])), (2, (.func (.func 49) #[] #[])), (4, (p_ b1)), (6, n_), (18, (b_ ((x3.ka == ka) && (x3.ki == ki)))), (7, (i_ 1))] (by exact ⟨rfl, rfl, rfl, rfl, rfl, rfl, rfl, trivial⟩) ?_
        refine A.tn ?_
        refine A.seq ?_
        refine A.region (A.goP [.p] [(0, (p_ b2)), (1, (.agg #[(u_ ka), (i_ ki)])), (2, (.func (.func 49) #[] #[])), (4, (p_ b1)), (6, n_), (18, (b_ ((x3.ka == ka) && (x3.ki == ki)))), (7, (i_ 1)), (39, (p_ b2))] [] T0 (by kernel_rfl) trivial ?_)
        refine A.cons (A.callT (some 40) [(p_ b2)] [1, 1, 0] ((fun zt11 => (.pointer (T.ptr zt11)))) ((fun zt11 => zt11 = balT b2 x3 l7 zt10)) ((fun zt11 => [treeI 92 zt11])) (fun zt11 => [treeI 92 zt11, blk b1 [(u_ ka), (i_ ki)] 66]) (by kernel_rfl) rfl rfl (fun ww ss hh => balance_spec b2 x3 m4 h5 n6 l7 zt10 (by first | assumption | omega | exact hS_.1 | exact hS_.2.1 | exact mem_R hS hM hc | exact mem_L hS hM hc (by intro he_; simp_all)) (by first | assumption | omega | exact hS_.1 | exact hS_.2.1 | exact mem_R hS hM hc | exact mem_L hS hM hc (by intro he_; simp_all)) (by first | assumption | omega | exact hS_.1 | exact hS_.2.1 | exact mem_R hS hM hc | exact mem_L hS hM hc (by intro he_; simp_all)) (by first | assumption | omega | exact hS_.1 | exact hS_.2.1 | exact mem_R hS hM hc | exact mem_L hS hM hc (by intro he_; simp_all)) ww hh) (fun _ => rfl) ?_)
        rintro zt11 hz4
        refine A.goA [.p] [(0, (p_ b2)), (1, (.agg #[(u_ ka), (i_ ki)])), (2, (.func (.func 49) #[] #[])), (4, (p_ b1)), (6, (.pointer (T.ptr zt11))), (18, (b_ ((x3.ka == ka) && (x3.ki == ki)))), (7, (i_ 1))] [] T0 (by kernel_rfl) trivial ?_
        refine A.tn ?_
        refine A.ret ?_
        refine A.postK [0] [(.pointer (T.ptr zt11))] (fun aa ww rr ss => ⟨rv_tmp rr rfl, trivial⟩) (zt11) ?_ ?_ (by kernel_rfl)
        · rfl
        · show Chg (T.node b2 x3 m4 h5 n6 l7 r8) zt11 (delL ka ki (T.node b2 x3 m4 h5 n6 l7 r8).toL) (-1) 0
          first | (rw [delL_key hS (by assumption)]; assumption) | (subst_vars; exact del_R hR hB hS (by assumption) hc) | (subst_vars; exact del_L hR hB hS (by assumption) (by intro he_; simp_all) hc)
      · skip
        refine A.region (A.goA [.p, .ld 3, .cq (i_ 0), .p] [(0, (p_ b2)), (1, (.agg #[(u_ ka), (i_ ki)])), (2, (.func (.func 49) #[] #[])), (4, (p_ b1)), (6, n_), (18, (b_ ((x3.ka == ka) && (x3.ki == ki)))), (7, (i_ 0))] [b1] (fun κ => κ.call 59 [(p_ b2), (.agg #[(u_ ka), (i_ ki)])] (i_ 0) ∧ True) (by kernel_rfl) ⟨(fun ww ss => side0_spec b2 x3 m4 h5 n6 l7 r8 ka ki (by assumption) ww (ss.mem (i := 0) rfl)), trivial⟩ ?_)
        refine A.tn ?_
        refine A.seq ?_
        refine A.draw2 [10, 14] 15 (by kernel_rfl) ?_
        refine A.drawP 3 [.p, .p, .p, .p, .p, .p, .p, .ld 0, .ld 3, .p, .p, .p] [0, 1, 2, 3, 4, 5, 6, 7, 8, 9, 11, 12] [(0, (p_ b2)), (1, (.agg #[(u_ ka), (i_ ki)])), (2, (.func (.func 49) #[] #[])), (4, (p_ b1)), (6, n_), (18, (b_ ((x3.ka == ka) && (x3.ki == ki)))), (7, (i_ 0)), (26, (i_ 0)), (32, (.pointer (T.ptr l7))), (33, (.agg #[(u_ ka), (i_ ki)])), (34, (.func (.func 49) #[] #[])), (37, (q_ b2 4))] [b2, b1] T0 (by kernel_rfl) trivial ?_
        refine A.only2 10 rfl (by kernel_rfl) (A.callT (some 35) [(.pointer (T.ptr l7)), (.agg #[(u_ ka), (i_ ki)]), (.func (.func 49) #[] #[])] [1] ((fun zt12 => (.pointer (T.ptr zt12)))) ((fun zt12 => Chg l7 zt12 (delL ka ki l7.toL) (-1) 0)) ((fun zt12 => [treeI 92 zt12])) (fun zt12 => [treeI 92 zt12, blk b2 [(u_ x3.ka), (i_ x3.ki), (u_ x3.va), (i_ x3.vi), (.pointer (T.ptr l7)), (.pointer (T.ptr r8)), (u_ m4.ka), (i_ m4.ki), (u_ m4.va), (i_ m4.vi), (i_ h5), (i_ n6)] 92, treeI 92 r8, blk b1 [(u_ ka), (i_ ki)] 66]) (by kernel_rfl) rfl rfl (fun ww ss hh => ih l7 ka ki (by first | (simp; done) | (simp; omega)) (by first | assumption | omega | exact hS_.1 | exact hS_.2.1 | exact mem_R hS hM hc | exact mem_L hS hM hc (by intro he_; simp_all)) (by first | assumption | omega | exact hS_.1 | exact hS_.2.1 | exact mem_R hS hM hc | exact mem_L hS hM hc (by intro he_; simp_all)) (by first | assumption | omega | exact hS_.1 | exact hS_.2.1 | exact mem_R hS hM hc | exact mem_L hS hM hc (by intro he_; simp_all)) (by first | assumption | omega | exact hS_.1 | exact hS_.2.1 | exact mem_R hS hM hc | exact mem_L hS hM hc (by intro he_; simp_all)) (by first | assumption | omega | exact hS_.1 | exact hS_.2.1 | exact mem_R hS hM hc | exact mem_L hS hM hc (by intro he_; simp_all)) ww hh) (fun _ => rfl) ?_)
        rintro zt12 hz5
        obtain ⟨hz51, hz52, hz53, hz54, hz55⟩ := id hz5; have hz56 := T.Right.pos hz51
        rw [hz53] at hz56; have hz57 := delL_len (a := ka) (i := ki) (T.toL l7)
        refine A.stage ?_
        refine A.drawP 1 [.p] [13] [(0, (p_ b2)), (1, (.agg #[(u_ ka), (i_ ki)])), (2, (.func (.func 49) #[] #[])), (4, (p_ b1)), (6, n_), (18, (b_ ((x3.ka == ka) && (x3.ki == ki)))), (7, (i_ 0)), (35, (.pointer (T.ptr zt12))), (38, (q_ b2 4))] [] T0 (by kernel_rfl) trivial ?_
        refine A.only2 14 rfl (by kernel_rfl) (A.store 1 (vs := [(.pointer (T.ptr zt12))]) [treeI 92 zt12, blk b2 [(u_ x3.ka), (i_ x3.ki), (u_ x3.va), (i_ x3.vi), (.pointer (T.ptr zt12)), (.pointer (T.ptr r8)), (u_ m4.ka), (i_ m4.ki), (u_ m4.va), (i_ m4.vi), (i_ h5), (i_ n6)] 92, treeI 92 r8, blk b1 [(u_ ka), (i_ ki)] 66] (by kernel_rfl) rfl rfl rfl rfl (by kernel_rfl) rfl rfl (by kernel_rfl) rfl ?_)
        refine A.stage ?_
        refine A.fin2 (by kernel_rfl) ?_
        refine A.sub [(0, (p_ b2)), (1, (.agg #[(u_ ka), (i_ ki)])), (2, (.func (.func 49) #[] #[])), (4, (p_ b1)), (6, n_), (18, (b_ ((x3.ka == ka) && (x3.ki == ki)))), (7, (i_ 0))] (by exact ⟨rfl, rfl, rfl, rfl, rfl, rfl, rfl, trivial⟩) ?_
        refine A.tn ?_
        refine A.seq ?_
        refine A.region (A.goP [.p] [(0, (p_ b2)), (1, (.agg #[(u_ ka), (i_ ki)])), (2, (.func (.func 49) #[] #[])), (4, (p_ b1)), (6, n_), (18, (b_ ((x3.ka == ka) && (x3.ki == ki)))), (7, (i_ 0)), (39, (p_ b2))] [] T0 (by kernel_rfl) trivial ?_)
        refine A.cons (A.callT (some 40) [(p_ b2)] [1, 0, 0] ((fun zt13 => (.pointer (T.ptr zt13)))) ((fun zt13 => zt13 = balT b2 x3 zt12 r8)) ((fun zt13 => [treeI 92 zt13])) (fun zt13 => [treeI 92 zt13, blk b1 [(u_ ka), (i_ ki)] 66]) (by kernel_rfl) rfl rfl (fun ww ss hh => balance_spec b2 x3 m4 h5 n6 zt12 r8 (by first | assumption | omega | exact hS_.1 | exact hS_.2.1 | exact mem_R hS hM hc | exact mem_L hS hM hc (by intro he_; simp_all)) (by first | assumption | omega | exact hS_.1 | exact hS_.2.1 | exact mem_R hS hM hc | exact mem_L hS hM hc (by intro he_; simp_all)) (by first | assumption | omega | exact hS_.1 | exact hS_.2.1 | exact mem_R hS hM hc | exact mem_L hS hM hc (by intro he_; simp_all)) (by first | assumption | omega | exact hS_.1 | exact hS_.2.1 | exact mem_R hS hM hc | exact mem_L hS hM hc (by intro he_; simp_all)) ww hh) (fun _ => rfl) ?_)
        rintro zt13 hz6
        refine A.goA [.p] [(0, (p_ b2)), (1, (.agg #[(u_ ka), (i_ ki)])), (2, (.func (.func 49) #[] #[])), (4, (p_ b1)), (6, (.pointer (T.ptr zt13))), (18, (b_ ((x3.ka == ka) && (x3.ki == ki)))), (7, (i_ 0))] [] T0 (by kernel_rfl) trivial ?_
        refine A.tn ?_
        refine A.ret ?_
        refine A.postK [0] [(.pointer (T.ptr zt13))] (fun aa ww rr ss => ⟨rv_tmp rr rfl, trivial⟩) (zt13) ?_ ?_ (by kernel_rfl)
        · rfl
        · show Chg (T.node b2 x3 m4 h5 n6 l7 r8) zt13 (delL ka ki (T.node b2 x3 m4 h5 n6 l7 r8).toL) (-1) 0
          first | (rw [delL_key hS (by assumption)]; assumption) | (subst_vars; exact del_R hR hB hS (by assumption) hc) | (subst_vars; exact del_L hR hB hS (by assumption) (by intro he_; simp_all) hc)

theorem change_wo  (t : T) (ka ki : Int) (hR : t.Right) (hB : t.Bal) (hS : Srt t.toL) (hM : ∃ y ∈ t.toL, y.ka = ka ∧ y.ki = ki) (hC : t.cnt ≤ 800) (w : World) (hs : HS w (feet [treeI 92 t]) [treeI 92 t] w) :
    Calls Try.prog 48 #[(.pointer (T.ptr t)), (.agg #[(u_ ka), (i_ ki)]), (.func (.func 49) #[] #[])] w fun e w' => ∃ zz, e = .returned ((fun (zt : T) => (.pointer (T.ptr zt))) zz) ∧ (fun (zt : T) => Chg t zt (delL ka ki t.toL) (-1) 0) zz ∧ Turn [treeI 92 t] ((fun (zt : T) => [treeI 92 zt]) zz) w w' :=
  change_wo_step t ka ki (fun t' ka' ki' hlt_ g0_ g1_ g2_ g3_ g4_ w_  y_ => change_wo t' ka' ki' g0_ g1_ g2_ g3_ g4_ w_  y_) hR hB hS hM hC w  hs
termination_by SizeOf.sizeOf t
decreasing_by exact hlt_
end Go.Proofs.Ytdhcglflmkjneaa
