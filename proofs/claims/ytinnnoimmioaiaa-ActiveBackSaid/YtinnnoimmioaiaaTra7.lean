/- What the functions of this layer do, proved operation by operation, for all arguments, under the conditions that each theorem states. -/
import Derived.Test.YtinnnoimmioaiaaProg
import Derived.Test.YtinnnoimmioaiaaTra6
namespace Go.Proofs.Ytinnnoimmioaiaa
open Go V
set_option linter.unusedVariables false
set_option linter.unusedSimpArgs false

set_option maxHeartbeats 4000000 in
set_option maxRecDepth 100000 in
theorem rone_no (al : Option Addr) (l : List Cl) (cl : Nat) (z : Zc) (hl : l.length ≤ 100000) (hno : oneER l z ≠ 0) (w : World) (r0 : arrAt w al (V.flat encCl l)) (hs : HS w (feet []) [] w) :
    Calls Try.prog 65 #[vS al l cl, (.agg (encZc z).toArray)] w fun e w' => ∃ zz, e = .returned ((fun (zz : Unit) => (.agg #[vS al l cl, i_ (oneER l z)])) zz) ∧ (fun (zz : Unit) => True) zz ∧ Turn [] ((fun (zz : Unit) => []) zz) w w' := by
  refine calls_of (args := [vS al l cl, (.agg (encZc z).toArray)]) (penv [vS al l cl, (.agg (encZc z).toArray)]) (feet []) [] Try.func65 rfl rfl (look_penv _) hs ?_
  refine A.norm [(0, vS al l cl), (1, (.agg (encZc z).toArray))] [] (by exact ⟨rfl, rfl, trivial⟩) rfl ?_
  refine A.seq (A.region (A.goA2 [.al, .al] [0, 3, 4] (fun b1 b2 => [(0, vS al l cl), (3, p_ b1), (4, p_ b2)]) (fun b1 b2 => [blk b1 (encZc z) 111, blk b2 [e_, i_ 0] 113]) (fun b1 b2 => []) (fun _ _ => T0) (fun _ _ => by kernel_rfl) (fun b1 b2 => trivial) ?_))
  intro b1 b2
  refine A.tn (A.seq (A.seq (A.region (A.goA [.p, .ld 0] [(0, vS al l cl), (3, p_ b1), (4, p_ b2), (6, i_ z.zk)] [b1] T0 (by kernel_rfl) trivial ?_))))
  refine A.tn (A.block (A.seq (A.region (A.goA [.p, .p] [(0, vS al l cl), (3, p_ b1), (4, p_ b2), (6, i_ z.zk), (7, b_ (z.zk == 1))] [] T0 (by kernel_rfl) trivial ?_))))
  refine A.tn (A.cond (E := z.zk == 1) rfl (fun e1 => ?_) (fun e1 => ?_))
  · skip
    have p1 := e1; try simp only [nrm] at p1
    refine A.seq (A.region (A.goP [.p, .p, .ld 0] [(4, p_ b2), (9, vS al l cl), (11, (.agg #[i_ z.zi, i_ z.zp, b_ z.zl, u_ z.ya, u_ z.yb, u_ z.yc, u_ z.va, u_ z.vb, u_ z.vc, u_ z.wa, u_ z.wb, u_ z.wc, i_ z.zn, i_ z.zq]))] [b1] T0 (by kernel_rfl) trivial ?_))
    refine A.cons (A.callT (some 12) [vS al l cl, (.agg #[i_ z.zi, i_ z.zp, b_ z.zl, u_ z.ya, u_ z.yb, u_ z.yc, u_ z.va, u_ z.vb, u_ z.vc, u_ z.wa, u_ z.wb, u_ z.wc, i_ z.zn, i_ z.zq])] [] ((fun _ => (.agg #[vS al l cl, i_ (addER l (⟨z.zi, z.zp, z.zl, z.ya, z.yb, z.yc, z.va, z.vb, z.vc, z.wa, z.wb, z.wc, z.zn, z.zq⟩ : Cl))]))) ((fun _ => True)) ((fun _ => [])) (fun _ => [blk b1 (encZc z) 111, blk b2 [e_, i_ 0] 113]) (by kernel_rfl) rfl rfl (fun ww ss hh => radd_no al l cl (⟨z.zi, z.zp, z.zl, z.ya, z.yb, z.yc, z.va, z.vb, z.vc, z.wa, z.wb, z.wc, z.zn, z.zq⟩ : Cl) (by first | assumption | omega | ((first | (have h_ := hok) | (have h_ := hno)); unfold oneER at h_; simp_all; done) | ((first | (have h_ := hok) | (have h_ := hno)); unfold oneER at h_; simp_all; exact h_)) (by first | assumption | omega | ((first | (have h_ := hok) | (have h_ := hno)); unfold oneER at h_; simp_all; done) | ((first | (have h_ := hok) | (have h_ := hno)); unfold oneER at h_; simp_all; exact h_)) ww ((rd_old r0 (by simp [feet])) ww ss) hh) (fun _ => rfl) ?_)
    rintro ⟨⟩ -
    refine A.goAS [.st 1] [(4, p_ b2)] [blk b1 (encZc z) 111, blk b2 [vS al l cl, i_ (addER l (⟨z.zi, z.zp, z.zl, z.ya, z.yb, z.yc, z.va, z.vb, z.vc, z.wa, z.wb, z.wc, z.zn, z.zq⟩ : Cl))] 113] [b2] T0 (by kernel_rfl) trivial ?_
    refine A.tn (A.ret (A.br (A.tr (A.postK [] [(.agg #[vS al l cl, i_ (addER l (⟨z.zi, z.zp, z.zl, z.ya, z.yb, z.yc, z.va, z.vb, z.vc, z.wa, z.wb, z.wc, z.zn, z.zq⟩ : Cl))])] (fun aa ww rr ss => ⟨rv_cellN (vs := [vS al l cl, i_ (addER l (⟨z.zi, z.zp, z.zl, z.ya, z.yb, z.yc, z.va, z.vb, z.vc, z.wa, z.wb, z.wc, z.zn, z.zq⟩ : Cl))]) rr ss rfl (by kernel_rfl) (reads_blk (i := 1) rfl rfl), trivial⟩) () ?_ ?_ (by kernel_rfl)))))
    · show ((.agg #[vS al l cl, i_ (addER l (⟨z.zi, z.zp, z.zl, z.ya, z.yb, z.yc, z.va, z.vb, z.vc, z.wa, z.wb, z.wc, z.zn, z.zq⟩ : Cl))]) : Value) = (.agg #[vS al l cl, i_ (oneER l z)])
      first | rfl | (unfold oneER; simp_all; done) | (unfold oneER; simp [*]; rfl) | (unfold oneLR; simp_all; done) | (unfold oneLR; simp [*]; rfl)
    · trivial
  · skip
    have p1 := e1; try simp only [nrm] at p1
    refine A.seq (A.region (A.goA [.p, .p] [(0, vS al l cl), (3, p_ b1), (4, p_ b2), (6, i_ z.zk), (13, b_ (z.zk == 2))] [] T0 (by kernel_rfl) trivial ?_))
    refine A.tn (A.cond (E := z.zk == 2) rfl (fun e3 => ?_) (fun e3 => ?_))
    · skip
      have p3 := e3; try simp only [nrm] at p3
      refine A.seq (A.region (A.goP [.p, .p, .p, .ld 0] [(4, p_ b2), (15, vS al l cl), (18, i_ z.zi)] [b1] T0 (by kernel_rfl) trivial ?_))
      refine A.cons (A.callT (some 19) [vS al l cl, i_ z.zi] [] ((fun _ => (.agg #[vS al l cl, i_ (delER l z.zi)]))) ((fun _ => True)) ((fun _ => [])) (fun _ => [blk b1 (encZc z) 111, blk b2 [e_, i_ 0] 113]) (by kernel_rfl) rfl rfl (fun ww ss hh => rdel_no al l cl z.zi (by first | assumption | omega | ((first | (have h_ := hok) | (have h_ := hno)); unfold oneER at h_; simp_all; done) | ((first | (have h_ := hok) | (have h_ := hno)); unfold oneER at h_; simp_all; exact h_)) (by first | assumption | omega | ((first | (have h_ := hok) | (have h_ := hno)); unfold oneER at h_; simp_all; done) | ((first | (have h_ := hok) | (have h_ := hno)); unfold oneER at h_; simp_all; exact h_)) ww ((rd_old r0 (by simp [feet])) ww ss) hh) (fun _ => rfl) ?_)
      rintro ⟨⟩ -
      refine A.goAS [.st 1] [(4, p_ b2)] [blk b1 (encZc z) 111, blk b2 [vS al l cl, i_ (delER l z.zi)] 113] [b2] T0 (by kernel_rfl) trivial ?_
      refine A.tn (A.ret (A.br (A.tr (A.postK [] [(.agg #[vS al l cl, i_ (delER l z.zi)])] (fun aa ww rr ss => ⟨rv_cellN (vs := [vS al l cl, i_ (delER l z.zi)]) rr ss rfl (by kernel_rfl) (reads_blk (i := 1) rfl rfl), trivial⟩) () ?_ ?_ (by kernel_rfl)))))
      · show ((.agg #[vS al l cl, i_ (delER l z.zi)]) : Value) = (.agg #[vS al l cl, i_ (oneER l z)])
        first | rfl | (unfold oneER; simp_all; done) | (unfold oneER; simp [*]; rfl) | (unfold oneLR; simp_all; done) | (unfold oneLR; simp [*]; rfl)
      · trivial
    · skip
      have p3 := e3; try simp only [nrm] at p3
      refine A.seq (A.region (A.goA [.p, .p] [(0, vS al l cl), (3, p_ b1), (4, p_ b2), (20, b_ (z.zk == 3))] [] T0 (by kernel_rfl) trivial ?_))
      refine A.tn (A.cond (E := z.zk == 3) rfl (fun e5 => ?_) (fun e5 => ?_))
      · skip
        have p5 := e5; try simp only [nrm] at p5
        refine A.seq (A.region (A.goP [.p, .p, .ld 0] [(4, p_ b2), (22, vS al l cl), (24, (.agg #[i_ z.zi, i_ z.zp, b_ z.zl, u_ z.ya, u_ z.yb, u_ z.yc, u_ z.va, u_ z.vb, u_ z.vc, u_ z.wa, u_ z.wb, u_ z.wc, i_ z.zn, i_ z.zq]))] [b1] T0 (by kernel_rfl) trivial ?_))
        refine A.cons (A.callT (some 25) [vS al l cl, (.agg #[i_ z.zi, i_ z.zp, b_ z.zl, u_ z.ya, u_ z.yb, u_ z.yc, u_ z.va, u_ z.vb, u_ z.vc, u_ z.wa, u_ z.wb, u_ z.wc, i_ z.zn, i_ z.zq])] [] ((fun _ => (.agg #[vS al l cl, i_ (setER l (⟨z.zi, z.zp, z.zl, z.ya, z.yb, z.yc, z.va, z.vb, z.vc, z.wa, z.wb, z.wc, z.zn, z.zq⟩ : Cl))]))) ((fun _ => True)) ((fun _ => [])) (fun _ => [blk b1 (encZc z) 111, blk b2 [e_, i_ 0] 113]) (by kernel_rfl) rfl rfl (fun ww ss hh => rset_no al l cl (⟨z.zi, z.zp, z.zl, z.ya, z.yb, z.yc, z.va, z.vb, z.vc, z.wa, z.wb, z.wc, z.zn, z.zq⟩ : Cl) (by first | assumption | omega | ((first | (have h_ := hok) | (have h_ := hno)); unfold oneER at h_; simp_all; done) | ((first | (have h_ := hok) | (have h_ := hno)); unfold oneER at h_; simp_all; exact h_)) (by first | assumption | omega | ((first | (have h_ := hok) | (have h_ := hno)); unfold oneER at h_; simp_all; done) | ((first | (have h_ := hok) | (have h_ := hno)); unfold oneER at h_; simp_all; exact h_)) ww ((rd_old r0 (by simp [feet])) ww ss) hh) (fun _ => rfl) ?_)
        rintro ⟨⟩ -
        refine A.goAS [.st 1] [(4, p_ b2)] [blk b1 (encZc z) 111, blk b2 [vS al l cl, i_ (setER l (⟨z.zi, z.zp, z.zl, z.ya, z.yb, z.yc, z.va, z.vb, z.vc, z.wa, z.wb, z.wc, z.zn, z.zq⟩ : Cl))] 113] [b2] T0 (by kernel_rfl) trivial ?_
        refine A.tn (A.ret (A.br (A.tr (A.postK [] [(.agg #[vS al l cl, i_ (setER l (⟨z.zi, z.zp, z.zl, z.ya, z.yb, z.yc, z.va, z.vb, z.vc, z.wa, z.wb, z.wc, z.zn, z.zq⟩ : Cl))])] (fun aa ww rr ss => ⟨rv_cellN (vs := [vS al l cl, i_ (setER l (⟨z.zi, z.zp, z.zl, z.ya, z.yb, z.yc, z.va, z.vb, z.vc, z.wa, z.wb, z.wc, z.zn, z.zq⟩ : Cl))]) rr ss rfl (by kernel_rfl) (reads_blk (i := 1) rfl rfl), trivial⟩) () ?_ ?_ (by kernel_rfl)))))
        · show ((.agg #[vS al l cl, i_ (setER l (⟨z.zi, z.zp, z.zl, z.ya, z.yb, z.yc, z.va, z.vb, z.vc, z.wa, z.wb, z.wc, z.zn, z.zq⟩ : Cl))]) : Value) = (.agg #[vS al l cl, i_ (oneER l z)])
          first | rfl | (unfold oneER; simp_all; done) | (unfold oneER; simp [*]; rfl) | (unfold oneLR; simp_all; done) | (unfold oneLR; simp [*]; rfl)
        · trivial
      · skip
        have p5 := e5; try simp only [nrm] at p5
        refine A.skip (A.bn (A.tn (A.seq (A.region (A.goAS [.p, .p, .st 1] [(4, p_ b2)] [blk b1 (encZc z) 111, blk b2 [vS al l cl, i_ 1] 113] [b2] T0 (by kernel_rfl) trivial ?_)))))
        refine A.tn (A.ret (A.postK [] [(.agg #[vS al l cl, i_ 1])] (fun aa ww rr ss => ⟨rv_cellN (vs := [vS al l cl, i_ 1]) rr ss rfl (by kernel_rfl) (reads_blk (i := 1) rfl rfl), trivial⟩) () ?_ ?_ (by kernel_rfl)))
        · show ((.agg #[vS al l cl, i_ 1]) : Value) = (.agg #[vS al l cl, i_ (oneER l z)])
          first | rfl | (unfold oneER; simp_all; done) | (unfold oneER; simp [*]; rfl) | (unfold oneLR; simp_all; done) | (unfold oneLR; simp [*]; rfl)
        · trivial

set_option maxHeartbeats 4000000 in
set_option maxRecDepth 100000 in
theorem rone_ok (al : Option Addr) (l : List Cl) (cl : Nat) (z : Zc) (hl : l.length ≤ 100000) (hok : oneER l z = 0) (w : World) (r0 : arrAt w al (V.flat encCl l)) (hs : HS w (feet []) [] w) :
    Calls Try.prog 65 #[vS al l cl, (.agg (encZc z).toArray)] w fun e w' => ∃ zz, e = .returned ((fun (zz : (Option Addr) × Nat) => match zz with | (al', cl') => (.agg #[vS al' (oneLR l z) cl', i_ 0])) zz) ∧ (fun (zz : (Option Addr) × Nat) => match zz with | (al', cl') => True) zz ∧ Turn [] ((fun (zz : (Option Addr) × Nat) => match zz with | (al', cl') => [sCl al' (oneLR l z) cl']) zz) w w' := by
  refine calls_of (args := [vS al l cl, (.agg (encZc z).toArray)]) (penv [vS al l cl, (.agg (encZc z).toArray)]) (feet []) [] Try.func65 rfl rfl (look_penv _) hs ?_
  refine A.norm [(0, vS al l cl), (1, (.agg (encZc z).toArray))] [] (by exact ⟨rfl, rfl, trivial⟩) rfl ?_
  refine A.seq (A.region (A.goA2 [.al, .al] [0, 3, 4] (fun b1 b2 => [(0, vS al l cl), (3, p_ b1), (4, p_ b2)]) (fun b1 b2 => [blk b1 (encZc z) 111, blk b2 [e_, i_ 0] 113]) (fun b1 b2 => []) (fun _ _ => T0) (fun _ _ => by kernel_rfl) (fun b1 b2 => trivial) ?_))
  intro b1 b2
  refine A.tn (A.seq (A.seq (A.region (A.goA [.p, .ld 0] [(0, vS al l cl), (3, p_ b1), (4, p_ b2), (6, i_ z.zk)] [b1] T0 (by kernel_rfl) trivial ?_))))
  refine A.tn (A.block (A.seq (A.region (A.goA [.p, .p] [(0, vS al l cl), (3, p_ b1), (4, p_ b2), (6, i_ z.zk), (7, b_ (z.zk == 1))] [] T0 (by kernel_rfl) trivial ?_))))
  refine A.tn (A.cond (E := z.zk == 1) rfl (fun e1 => ?_) (fun e1 => ?_))
  · skip
    have p1 := e1; try simp only [nrm] at p1
    refine A.seq (A.region (A.goP [.p, .p, .ld 0] [(4, p_ b2), (9, vS al l cl), (11, (.agg #[i_ z.zi, i_ z.zp, b_ z.zl, u_ z.ya, u_ z.yb, u_ z.yc, u_ z.va, u_ z.vb, u_ z.vc, u_ z.wa, u_ z.wb, u_ z.wc, i_ z.zn, i_ z.zq]))] [b1] T0 (by kernel_rfl) trivial ?_))
    refine A.cons (A.callT (some 12) [vS al l cl, (.agg #[i_ z.zi, i_ z.zp, b_ z.zl, u_ z.ya, u_ z.yb, u_ z.yc, u_ z.va, u_ z.vb, u_ z.vc, u_ z.wa, u_ z.wb, u_ z.wc, i_ z.zn, i_ z.zq])] [] ((fun (zz : Option Addr × Nat) => match zz with | (al'3, cl'4) => (.agg #[vS al'3 (addLR l (⟨z.zi, z.zp, z.zl, z.ya, z.yb, z.yc, z.va, z.vb, z.vc, z.wa, z.wb, z.wc, z.zn, z.zq⟩ : Cl)) cl'4, i_ 0]))) ((fun (zz : Option Addr × Nat) => match zz with | (al'3, cl'4) => True)) ((fun (zz : Option Addr × Nat) => match zz with | (al'3, cl'4) => [sCl al'3 (addLR l (⟨z.zi, z.zp, z.zl, z.ya, z.yb, z.yc, z.va, z.vb, z.vc, z.wa, z.wb, z.wc, z.zn, z.zq⟩ : Cl)) cl'4])) (fun (zz : Option Addr × Nat) => match zz with | (al'3, cl'4) => [sCl al'3 (addLR l (⟨z.zi, z.zp, z.zl, z.ya, z.yb, z.yc, z.va, z.vb, z.vc, z.wa, z.wb, z.wc, z.zn, z.zq⟩ : Cl)) cl'4, blk b1 (encZc z) 111, blk b2 [e_, i_ 0] 113]) (by kernel_rfl) rfl rfl (fun ww ss hh => radd_ok al l cl (⟨z.zi, z.zp, z.zl, z.ya, z.yb, z.yc, z.va, z.vb, z.vc, z.wa, z.wb, z.wc, z.zn, z.zq⟩ : Cl) (by first | assumption | omega | ((first | (have h_ := hok) | (have h_ := hno)); unfold oneER at h_; simp_all; done) | ((first | (have h_ := hok) | (have h_ := hno)); unfold oneER at h_; simp_all; exact h_)) (by first | assumption | omega | ((first | (have h_ := hok) | (have h_ := hno)); unfold oneER at h_; simp_all; done) | ((first | (have h_ := hok) | (have h_ := hno)); unfold oneER at h_; simp_all; exact h_)) ww ((rd_old r0 (by simp [feet])) ww ss) hh) (fun _ => rfl) ?_)
    rintro ⟨al'3, cl'4⟩ -
    refine A.goAS [.st 2] [(4, p_ b2)] [sCl al'3 (addLR l (⟨z.zi, z.zp, z.zl, z.ya, z.yb, z.yc, z.va, z.vb, z.vc, z.wa, z.wb, z.wc, z.zn, z.zq⟩ : Cl)) cl'4, blk b1 (encZc z) 111, blk b2 [vS al'3 (addLR l (⟨z.zi, z.zp, z.zl, z.ya, z.yb, z.yc, z.va, z.vb, z.vc, z.wa, z.wb, z.wc, z.zn, z.zq⟩ : Cl)) cl'4, i_ 0] 113] [b2] T0 (by kernel_rfl) trivial ?_
    refine A.tn (A.ret (A.br (A.tr (A.setH [sCl al'3 (oneLR l z) cl'4, blk b1 (encZc z) 111, blk b2 [vS al'3 (addLR l (⟨z.zi, z.zp, z.zl, z.ya, z.yb, z.yc, z.va, z.vb, z.vc, z.wa, z.wb, z.wc, z.zn, z.zq⟩ : Cl)) cl'4, i_ 0] 113] (cc (slC (by first | rfl | (unfold oneLR; simp_all; done) | (unfold oneLR; simp [*]; rfl) : (addLR l (⟨z.zi, z.zp, z.zl, z.ya, z.yb, z.yc, z.va, z.vb, z.vc, z.wa, z.wb, z.wc, z.zn, z.zq⟩ : Cl)) = (oneLR l z))) rfl) ?_))))
    refine A.postK [0] [(.agg #[vS al'3 (addLR l (⟨z.zi, z.zp, z.zl, z.ya, z.yb, z.yc, z.va, z.vb, z.vc, z.wa, z.wb, z.wc, z.zn, z.zq⟩ : Cl)) cl'4, i_ 0])] (fun aa ww rr ss => ⟨rv_cellN (vs := [vS al'3 (addLR l (⟨z.zi, z.zp, z.zl, z.ya, z.yb, z.yc, z.va, z.vb, z.vc, z.wa, z.wb, z.wc, z.zn, z.zq⟩ : Cl)) cl'4, i_ 0]) rr ss rfl (by kernel_rfl) (reads_blk (i := 2) rfl rfl), trivial⟩) (al'3, cl'4) ?_ ?_ (by kernel_rfl)
    · show ((.agg #[vS al'3 (addLR l (⟨z.zi, z.zp, z.zl, z.ya, z.yb, z.yc, z.va, z.vb, z.vc, z.wa, z.wb, z.wc, z.zn, z.zq⟩ : Cl)) cl'4, i_ 0]) : Value) = (.agg #[vS al'3 (oneLR l z) cl'4, i_ 0])
      first | rfl | (unfold oneER; simp_all; done) | (unfold oneER; simp [*]; rfl) | (unfold oneLR; simp_all; done) | (unfold oneLR; simp [*]; rfl)
    · trivial
  · skip
    have p1 := e1; try simp only [nrm] at p1
    refine A.seq (A.region (A.goA [.p, .p] [(0, vS al l cl), (3, p_ b1), (4, p_ b2), (6, i_ z.zk), (13, b_ (z.zk == 2))] [] T0 (by kernel_rfl) trivial ?_))
    refine A.tn (A.cond (E := z.zk == 2) rfl (fun e3 => ?_) (fun e3 => ?_))
    · skip
      have p3 := e3; try simp only [nrm] at p3
      refine A.seq (A.region (A.goP [.p, .p, .p, .ld 0] [(4, p_ b2), (15, vS al l cl), (18, i_ z.zi)] [b1] T0 (by kernel_rfl) trivial ?_))
      refine A.cons (A.callT (some 19) [vS al l cl, i_ z.zi] [] ((fun (zz : Option Addr × Nat) => match zz with | (al'6, cl'7) => (.agg #[vS al'6 (delLR l z.zi) cl'7, i_ 0]))) ((fun (zz : Option Addr × Nat) => match zz with | (al'6, cl'7) => True)) ((fun (zz : Option Addr × Nat) => match zz with | (al'6, cl'7) => [sCl al'6 (delLR l z.zi) cl'7])) (fun (zz : Option Addr × Nat) => match zz with | (al'6, cl'7) => [sCl al'6 (delLR l z.zi) cl'7, blk b1 (encZc z) 111, blk b2 [e_, i_ 0] 113]) (by kernel_rfl) rfl rfl (fun ww ss hh => rdel_ok al l cl z.zi (by first | assumption | omega | ((first | (have h_ := hok) | (have h_ := hno)); unfold oneER at h_; simp_all; done) | ((first | (have h_ := hok) | (have h_ := hno)); unfold oneER at h_; simp_all; exact h_)) (by first | assumption | omega | ((first | (have h_ := hok) | (have h_ := hno)); unfold oneER at h_; simp_all; done) | ((first | (have h_ := hok) | (have h_ := hno)); unfold oneER at h_; simp_all; exact h_)) ww ((rd_old r0 (by simp [feet])) ww ss) hh) (fun _ => rfl) ?_)
      rintro ⟨al'6, cl'7⟩ -
      refine A.goAS [.st 2] [(4, p_ b2)] [sCl al'6 (delLR l z.zi) cl'7, blk b1 (encZc z) 111, blk b2 [vS al'6 (delLR l z.zi) cl'7, i_ 0] 113] [b2] T0 (by kernel_rfl) trivial ?_
      refine A.tn (A.ret (A.br (A.tr (A.setH [sCl al'6 (oneLR l z) cl'7, blk b1 (encZc z) 111, blk b2 [vS al'6 (delLR l z.zi) cl'7, i_ 0] 113] (cc (slC (by first | rfl | (unfold oneLR; simp_all; done) | (unfold oneLR; simp [*]; rfl) : (delLR l z.zi) = (oneLR l z))) rfl) ?_))))
      refine A.postK [0] [(.agg #[vS al'6 (delLR l z.zi) cl'7, i_ 0])] (fun aa ww rr ss => ⟨rv_cellN (vs := [vS al'6 (delLR l z.zi) cl'7, i_ 0]) rr ss rfl (by kernel_rfl) (reads_blk (i := 2) rfl rfl), trivial⟩) (al'6, cl'7) ?_ ?_ (by kernel_rfl)
      · show ((.agg #[vS al'6 (delLR l z.zi) cl'7, i_ 0]) : Value) = (.agg #[vS al'6 (oneLR l z) cl'7, i_ 0])
        first | rfl | (unfold oneER; simp_all; done) | (unfold oneER; simp [*]; rfl) | (unfold oneLR; simp_all; done) | (unfold oneLR; simp [*]; rfl)
      · trivial
    · skip
      have p3 := e3; try simp only [nrm] at p3
      refine A.seq (A.region (A.goA [.p, .p] [(0, vS al l cl), (3, p_ b1), (4, p_ b2), (20, b_ (z.zk == 3))] [] T0 (by kernel_rfl) trivial ?_))
      refine A.tn (A.cond (E := z.zk == 3) rfl (fun e5 => ?_) (fun e5 => ?_))
      · skip
        have p5 := e5; try simp only [nrm] at p5
        refine A.seq (A.region (A.goP [.p, .p, .ld 0] [(4, p_ b2), (22, vS al l cl), (24, (.agg #[i_ z.zi, i_ z.zp, b_ z.zl, u_ z.ya, u_ z.yb, u_ z.yc, u_ z.va, u_ z.vb, u_ z.vc, u_ z.wa, u_ z.wb, u_ z.wc, i_ z.zn, i_ z.zq]))] [b1] T0 (by kernel_rfl) trivial ?_))
        refine A.cons (A.callT (some 25) [vS al l cl, (.agg #[i_ z.zi, i_ z.zp, b_ z.zl, u_ z.ya, u_ z.yb, u_ z.yc, u_ z.va, u_ z.vb, u_ z.vc, u_ z.wa, u_ z.wb, u_ z.wc, i_ z.zn, i_ z.zq])] [] ((fun (zz : Option Addr × Nat) => match zz with | (al'9, cl'10) => (.agg #[vS al'9 (setLR l (⟨z.zi, z.zp, z.zl, z.ya, z.yb, z.yc, z.va, z.vb, z.vc, z.wa, z.wb, z.wc, z.zn, z.zq⟩ : Cl)) cl'10, i_ 0]))) ((fun (zz : Option Addr × Nat) => match zz with | (al'9, cl'10) => True)) ((fun (zz : Option Addr × Nat) => match zz with | (al'9, cl'10) => [sCl al'9 (setLR l (⟨z.zi, z.zp, z.zl, z.ya, z.yb, z.yc, z.va, z.vb, z.vc, z.wa, z.wb, z.wc, z.zn, z.zq⟩ : Cl)) cl'10])) (fun (zz : Option Addr × Nat) => match zz with | (al'9, cl'10) => [sCl al'9 (setLR l (⟨z.zi, z.zp, z.zl, z.ya, z.yb, z.yc, z.va, z.vb, z.vc, z.wa, z.wb, z.wc, z.zn, z.zq⟩ : Cl)) cl'10, blk b1 (encZc z) 111, blk b2 [e_, i_ 0] 113]) (by kernel_rfl) rfl rfl (fun ww ss hh => rset_ok al l cl (⟨z.zi, z.zp, z.zl, z.ya, z.yb, z.yc, z.va, z.vb, z.vc, z.wa, z.wb, z.wc, z.zn, z.zq⟩ : Cl) (by first | assumption | omega | ((first | (have h_ := hok) | (have h_ := hno)); unfold oneER at h_; simp_all; done) | ((first | (have h_ := hok) | (have h_ := hno)); unfold oneER at h_; simp_all; exact h_)) (by first | assumption | omega | ((first | (have h_ := hok) | (have h_ := hno)); unfold oneER at h_; simp_all; done) | ((first | (have h_ := hok) | (have h_ := hno)); unfold oneER at h_; simp_all; exact h_)) ww ((rd_old r0 (by simp [feet])) ww ss) hh) (fun _ => rfl) ?_)
        rintro ⟨al'9, cl'10⟩ -
        refine A.goAS [.st 2] [(4, p_ b2)] [sCl al'9 (setLR l (⟨z.zi, z.zp, z.zl, z.ya, z.yb, z.yc, z.va, z.vb, z.vc, z.wa, z.wb, z.wc, z.zn, z.zq⟩ : Cl)) cl'10, blk b1 (encZc z) 111, blk b2 [vS al'9 (setLR l (⟨z.zi, z.zp, z.zl, z.ya, z.yb, z.yc, z.va, z.vb, z.vc, z.wa, z.wb, z.wc, z.zn, z.zq⟩ : Cl)) cl'10, i_ 0] 113] [b2] T0 (by kernel_rfl) trivial ?_
        refine A.tn (A.ret (A.br (A.tr (A.setH [sCl al'9 (oneLR l z) cl'10, blk b1 (encZc z) 111, blk b2 [vS al'9 (setLR l (⟨z.zi, z.zp, z.zl, z.ya, z.yb, z.yc, z.va, z.vb, z.vc, z.wa, z.wb, z.wc, z.zn, z.zq⟩ : Cl)) cl'10, i_ 0] 113] (cc (slC (by first | rfl | (unfold oneLR; simp_all; done) | (unfold oneLR; simp [*]; rfl) : (setLR l (⟨z.zi, z.zp, z.zl, z.ya, z.yb, z.yc, z.va, z.vb, z.vc, z.wa, z.wb, z.wc, z.zn, z.zq⟩ : Cl)) = (oneLR l z))) rfl) ?_))))
        refine A.postK [0] [(.agg #[vS al'9 (setLR l (⟨z.zi, z.zp, z.zl, z.ya, z.yb, z.yc, z.va, z.vb, z.vc, z.wa, z.wb, z.wc, z.zn, z.zq⟩ : Cl)) cl'10, i_ 0])] (fun aa ww rr ss => ⟨rv_cellN (vs := [vS al'9 (setLR l (⟨z.zi, z.zp, z.zl, z.ya, z.yb, z.yc, z.va, z.vb, z.vc, z.wa, z.wb, z.wc, z.zn, z.zq⟩ : Cl)) cl'10, i_ 0]) rr ss rfl (by kernel_rfl) (reads_blk (i := 2) rfl rfl), trivial⟩) (al'9, cl'10) ?_ ?_ (by kernel_rfl)
        · show ((.agg #[vS al'9 (setLR l (⟨z.zi, z.zp, z.zl, z.ya, z.yb, z.yc, z.va, z.vb, z.vc, z.wa, z.wb, z.wc, z.zn, z.zq⟩ : Cl)) cl'10, i_ 0]) : Value) = (.agg #[vS al'9 (oneLR l z) cl'10, i_ 0])
          first | rfl | (unfold oneER; simp_all; done) | (unfold oneER; simp [*]; rfl) | (unfold oneLR; simp_all; done) | (unfold oneLR; simp [*]; rfl)
        · trivial
      · skip
        have p5 := e5; try simp only [nrm] at p5
        refine A.skip (A.bn (A.tn (A.seq (A.region (A.goAS [.p, .p, .st 1] [(4, p_ b2)] [blk b1 (encZc z) 111, blk b2 [vS al l cl, i_ 1] 113] [b2] T0 (by kernel_rfl) trivial ?_)))))
        exact A.tn (A.ret (absurd hok (by unfold oneER; simp_all)))
end Go.Proofs.Ytinnnoimmioaiaa
