/- What the functions of this layer do, proved operation by operation, for all arguments, under the conditions that each theorem states. -/
import Derived.Test.YtinnnoimmioaiaaGreatProg
import Derived.Test.YtinnnoimmioaiaaGreatTra6
import Derived.Test.YtinnnoimmioaiaaGreatL2
namespace Go.Proofs.YtinnnoimmioaiaaGreat
open Go V
set_option linter.unusedVariables false
set_option linter.unusedSimpArgs false
set_option maxHeartbeats 4000000
set_option maxRecDepth 100000

theorem rone_no (al : Option Addr) (l : List Cl) (cl : Nat) (z : Zc) (hl : l.length ≤ 100000) (hno : oneER l z ≠ 0) (w : World) (r0 : arrAt w al (V.flat encCl l)) (hs : HS w (feet []) [] w) :
    Calls Tryz.prog 22 #[vS al l cl, (.agg (encZc z).toArray)] w fun e w' => ∃ zz, e = .returned ((fun (zz : Unit) => (.agg #[vS al l cl, i_ (oneER l z)])) zz) ∧ (fun (zz : Unit) => True) zz ∧ Turn [] ((fun (zz : Unit) => []) zz) w w' := by
  refine calls_of (args := [vS al l cl, (.agg (encZc z).toArray)]) (penv [vS al l cl, (.agg (encZc z).toArray)]) (feet []) [] Tryz.func22 rfl rfl (look_penv _) hs ?_
  refine A.sr (A.n2 [.al, .al] [1] (fun b1 b2 => [(3, p_ b1), (4, p_ b2)]) (fun b1 b2 => [blk b1 (encZc z) 50, blk b2 [e_, i_ 0] 56]) ?_)
  intro b1 b2
  refine A.tn (A.seq (A.sr (A.gk [.p, .ld 0] [] [(6, i_ z.zk)] [b1] T0 trivial ?_)))
  refine A.tn (A.block (A.sr (A.g [.p, .p] [] [(7, b_ (z.zk == 1))] ?_)))
  refine A.tn (A.cn (z.zk == 1) (fun e1 => ?_) (fun e1 => ?_))
  · have p1 := e1; try simp only [nrm] at p1
    refine A.sr (A.gpk [.p, .p, .ld 0] [0, 3, 6, 7] [(9, vS al l cl), (11, (.agg #[i_ z.zi, i_ z.zp, b_ z.zl, u_ z.ya, u_ z.yb, u_ z.yc, u_ z.va, u_ z.vb, u_ z.vc, u_ z.wa, u_ z.wb, u_ z.wc, i_ z.zn, i_ z.zq]))] [b1] T0 trivial ?_)
    refine A.cons (A.cT (some 12) [vS al l cl, (.agg #[i_ z.zi, i_ z.zp, b_ z.zl, u_ z.ya, u_ z.yb, u_ z.yc, u_ z.va, u_ z.vb, u_ z.vc, u_ z.wa, u_ z.wb, u_ z.wc, i_ z.zn, i_ z.zq])] [] ((fun _ => (.agg #[vS al l cl, i_ (addER l (⟨z.zi, z.zp, z.zl, z.ya, z.yb, z.yc, z.va, z.vb, z.vc, z.wa, z.wb, z.wc, z.zn, z.zq⟩ : Cl))]))) ((fun _ => True)) ((fun _ => [])) (fun ww ss hh => radd_no al l cl (⟨z.zi, z.zp, z.zl, z.ya, z.yb, z.yc, z.va, z.vb, z.vc, z.wa, z.wb, z.wc, z.zn, z.zq⟩ : Cl) (by assumption) (by (((have h_ := hno)); unfold oneER at h_; simp_all; exact h_)) ww ((rd_old r0 (by simp [feet])) ww ss) hh) ?_)
    rintro ⟨⟩ -
    refine A.gs [.st 1] [9, 11, 12] [] [(1, blk b2 [vS al l cl, i_ (addER l (⟨z.zi, z.zp, z.zl, z.ya, z.yb, z.yc, z.va, z.vb, z.vc, z.wa, z.wb, z.wc, z.zn, z.zq⟩ : Cl))] 56)] [b2] ?_
    refine A.tn (A.ret (A.br (A.tr (A.postK [] [(.agg #[vS al l cl, i_ (addER l (⟨z.zi, z.zp, z.zl, z.ya, z.yb, z.yc, z.va, z.vb, z.vc, z.wa, z.wb, z.wc, z.zn, z.zq⟩ : Cl))])] (fun aa ww rr ss => ⟨rv_cellN (vs := [vS al l cl, i_ (addER l (⟨z.zi, z.zp, z.zl, z.ya, z.yb, z.yc, z.va, z.vb, z.vc, z.wa, z.wb, z.wc, z.zn, z.zq⟩ : Cl))]) rr ss rfl (by kernel_rfl) (reads_blk (i := 1) rfl rfl), trivial⟩) () ?_ ?_ (by kernel_rfl)))))
    · show ((.agg #[vS al l cl, i_ (addER l (⟨z.zi, z.zp, z.zl, z.ya, z.yb, z.yc, z.va, z.vb, z.vc, z.wa, z.wb, z.wc, z.zn, z.zq⟩ : Cl))]) : Value) = (.agg #[vS al l cl, i_ (oneER l z)])
      (unfold oneER; simp [*]; rfl)
    trivial
  have p1 := e1; try simp only [nrm] at p1
  refine A.sr (A.g [.p, .p] [7] [(13, b_ (z.zk == 2))] ?_)
  refine A.tn (A.cn (z.zk == 2) (fun e3 => ?_) (fun e3 => ?_))
  · have p3 := e3; try simp only [nrm] at p3
    refine A.sr (A.gpk [.p, .p, .p, .ld 0] [0, 3, 6, 13] [(15, vS al l cl), (18, i_ z.zi)] [b1] T0 trivial ?_)
    refine A.cons (A.cT (some 19) [vS al l cl, i_ z.zi] [] ((fun _ => (.agg #[vS al l cl, i_ (delER l z.zi)]))) ((fun _ => True)) ((fun _ => [])) (fun ww ss hh => rdel_no al l cl z.zi (by assumption) (by (((have h_ := hno)); unfold oneER at h_; simp_all; done)) ww ((rd_old r0 (by simp [feet])) ww ss) hh) ?_)
    rintro ⟨⟩ -
    refine A.gs [.st 1] [15, 18, 19] [] [(1, blk b2 [vS al l cl, i_ (delER l z.zi)] 56)] [b2] ?_
    refine A.tn (A.ret (A.br (A.tr (A.postK [] [(.agg #[vS al l cl, i_ (delER l z.zi)])] (fun aa ww rr ss => ⟨rv_cellN (vs := [vS al l cl, i_ (delER l z.zi)]) rr ss rfl (by kernel_rfl) (reads_blk (i := 1) rfl rfl), trivial⟩) () ?_ ?_ (by kernel_rfl)))))
    · show ((.agg #[vS al l cl, i_ (delER l z.zi)]) : Value) = (.agg #[vS al l cl, i_ (oneER l z)])
      (unfold oneER; simp_all; done)
    trivial
  have p3 := e3; try simp only [nrm] at p3
  refine A.sr (A.g [.p, .p] [6, 13] [(20, b_ (z.zk == 3))] ?_)
  refine A.tn (A.cn (z.zk == 3) (fun e5 => ?_) (fun e5 => ?_))
  · have p5 := e5; try simp only [nrm] at p5
    refine A.sr (A.gpk [.p, .p, .ld 0] [0, 3, 20] [(22, vS al l cl), (24, (.agg #[i_ z.zi, i_ z.zp, b_ z.zl, u_ z.ya, u_ z.yb, u_ z.yc, u_ z.va, u_ z.vb, u_ z.vc, u_ z.wa, u_ z.wb, u_ z.wc, i_ z.zn, i_ z.zq]))] [b1] T0 trivial ?_)
    refine A.cons (A.cT (some 25) [vS al l cl, (.agg #[i_ z.zi, i_ z.zp, b_ z.zl, u_ z.ya, u_ z.yb, u_ z.yc, u_ z.va, u_ z.vb, u_ z.vc, u_ z.wa, u_ z.wb, u_ z.wc, i_ z.zn, i_ z.zq])] [] ((fun _ => (.agg #[vS al l cl, i_ (setER l (⟨z.zi, z.zp, z.zl, z.ya, z.yb, z.yc, z.va, z.vb, z.vc, z.wa, z.wb, z.wc, z.zn, z.zq⟩ : Cl))]))) ((fun _ => True)) ((fun _ => [])) (fun ww ss hh => rset_no al l cl (⟨z.zi, z.zp, z.zl, z.ya, z.yb, z.yc, z.va, z.vb, z.vc, z.wa, z.wb, z.wc, z.zn, z.zq⟩ : Cl) (by assumption) (by (((have h_ := hno)); unfold oneER at h_; simp_all; exact h_)) ww ((rd_old r0 (by simp [feet])) ww ss) hh) ?_)
    rintro ⟨⟩ -
    refine A.gs [.st 1] [22, 24, 25] [] [(1, blk b2 [vS al l cl, i_ (setER l (⟨z.zi, z.zp, z.zl, z.ya, z.yb, z.yc, z.va, z.vb, z.vc, z.wa, z.wb, z.wc, z.zn, z.zq⟩ : Cl))] 56)] [b2] ?_
    refine A.tn (A.ret (A.br (A.tr (A.postK [] [(.agg #[vS al l cl, i_ (setER l (⟨z.zi, z.zp, z.zl, z.ya, z.yb, z.yc, z.va, z.vb, z.vc, z.wa, z.wb, z.wc, z.zn, z.zq⟩ : Cl))])] (fun aa ww rr ss => ⟨rv_cellN (vs := [vS al l cl, i_ (setER l (⟨z.zi, z.zp, z.zl, z.ya, z.yb, z.yc, z.va, z.vb, z.vc, z.wa, z.wb, z.wc, z.zn, z.zq⟩ : Cl))]) rr ss rfl (by kernel_rfl) (reads_blk (i := 1) rfl rfl), trivial⟩) () ?_ ?_ (by kernel_rfl)))))
    · show ((.agg #[vS al l cl, i_ (setER l (⟨z.zi, z.zp, z.zl, z.ya, z.yb, z.yc, z.va, z.vb, z.vc, z.wa, z.wb, z.wc, z.zn, z.zq⟩ : Cl))]) : Value) = (.agg #[vS al l cl, i_ (oneER l z)])
      (unfold oneER; simp [*]; rfl)
    trivial
  have p5 := e5; try simp only [nrm] at p5
  refine A.skip (A.bn (tsr (A.gs [.p, .p, .st 1] [0, 3, 20] [] [(1, blk b2 [vS al l cl, i_ 1] 56)] [b2] ?_)))
  refine A.tn (A.ret (A.postK [] [(.agg #[vS al l cl, i_ 1])] (fun aa ww rr ss => ⟨rv_cellN (vs := [vS al l cl, i_ 1]) rr ss rfl (by kernel_rfl) (reads_blk (i := 1) rfl rfl), trivial⟩) () ?_ ?_ (by kernel_rfl)))
  · show ((.agg #[vS al l cl, i_ 1]) : Value) = (.agg #[vS al l cl, i_ (oneER l z)])
    (unfold oneER; simp_all; done)
  trivial

theorem rone_ok (al : Option Addr) (l : List Cl) (cl : Nat) (z : Zc) (hl : l.length ≤ 100000) (hok : oneER l z = 0) (w : World) (r0 : arrAt w al (V.flat encCl l)) (hs : HS w (feet []) [] w) :
    Calls Tryz.prog 22 #[vS al l cl, (.agg (encZc z).toArray)] w fun e w' => ∃ zz, e = .returned ((fun (zz : (Option Addr) × Nat) => match zz with | (al', cl') => (.agg #[vS al' (oneLR l z) cl', i_ 0])) zz) ∧ (fun (zz : (Option Addr) × Nat) => match zz with | (al', cl') => True) zz ∧ Turn [] ((fun (zz : (Option Addr) × Nat) => match zz with | (al', cl') => [sCl al' (oneLR l z) cl']) zz) w w' := by
  refine calls_of (args := [vS al l cl, (.agg (encZc z).toArray)]) (penv [vS al l cl, (.agg (encZc z).toArray)]) (feet []) [] Tryz.func22 rfl rfl (look_penv _) hs ?_
  refine A.sr (A.n2 [.al, .al] [1] (fun b1 b2 => [(3, p_ b1), (4, p_ b2)]) (fun b1 b2 => [blk b1 (encZc z) 50, blk b2 [e_, i_ 0] 56]) ?_)
  intro b1 b2
  refine A.tn (A.seq (A.sr (A.gk [.p, .ld 0] [] [(6, i_ z.zk)] [b1] T0 trivial ?_)))
  refine A.tn (A.block (A.sr (A.g [.p, .p] [] [(7, b_ (z.zk == 1))] ?_)))
  refine A.tn (A.cn (z.zk == 1) (fun e1 => ?_) (fun e1 => ?_))
  · have p1 := e1; try simp only [nrm] at p1
    refine A.sr (A.gpk [.p, .p, .ld 0] [0, 3, 6, 7] [(9, vS al l cl), (11, (.agg #[i_ z.zi, i_ z.zp, b_ z.zl, u_ z.ya, u_ z.yb, u_ z.yc, u_ z.va, u_ z.vb, u_ z.vc, u_ z.wa, u_ z.wb, u_ z.wc, i_ z.zn, i_ z.zq]))] [b1] T0 trivial ?_)
    refine A.cons (A.cT (some 12) [vS al l cl, (.agg #[i_ z.zi, i_ z.zp, b_ z.zl, u_ z.ya, u_ z.yb, u_ z.yc, u_ z.va, u_ z.vb, u_ z.vc, u_ z.wa, u_ z.wb, u_ z.wc, i_ z.zn, i_ z.zq])] [] ((fun (zz : Option Addr × Nat) => match zz with | (al'3, cl'4) => (.agg #[vS al'3 (addLR l (⟨z.zi, z.zp, z.zl, z.ya, z.yb, z.yc, z.va, z.vb, z.vc, z.wa, z.wb, z.wc, z.zn, z.zq⟩ : Cl)) cl'4, i_ 0]))) ((fun (zz : Option Addr × Nat) => match zz with | (al'3, cl'4) => True)) ((fun (zz : Option Addr × Nat) => match zz with | (al'3, cl'4) => [sCl al'3 (addLR l (⟨z.zi, z.zp, z.zl, z.ya, z.yb, z.yc, z.va, z.vb, z.vc, z.wa, z.wb, z.wc, z.zn, z.zq⟩ : Cl)) cl'4])) (fun ww ss hh => radd_ok al l cl (⟨z.zi, z.zp, z.zl, z.ya, z.yb, z.yc, z.va, z.vb, z.vc, z.wa, z.wb, z.wc, z.zn, z.zq⟩ : Cl) (by assumption) (by (((have h_ := hok)); unfold oneER at h_; simp_all; exact h_)) ww ((rd_old r0 (by simp [feet])) ww ss) hh) ?_)
    rintro ⟨al'3, cl'4⟩ -
    refine A.gs [.st 2] [9, 11, 12] [] [(2, blk b2 [vS al'3 (addLR l (⟨z.zi, z.zp, z.zl, z.ya, z.yb, z.yc, z.va, z.vb, z.vc, z.wa, z.wb, z.wc, z.zn, z.zq⟩ : Cl)) cl'4, i_ 0] 56)] [b2] ?_
    refine A.tn (A.ret (A.br (A.tr (A.setH [sCl al'3 (oneLR l z) cl'4, blk b1 (encZc z) 50, blk b2 [vS al'3 (addLR l (⟨z.zi, z.zp, z.zl, z.ya, z.yb, z.yc, z.va, z.vb, z.vc, z.wa, z.wb, z.wc, z.zn, z.zq⟩ : Cl)) cl'4, i_ 0] 56] (cc (slC (by (unfold oneLR; simp [*]; rfl) : (addLR l (⟨z.zi, z.zp, z.zl, z.ya, z.yb, z.yc, z.va, z.vb, z.vc, z.wa, z.wb, z.wc, z.zn, z.zq⟩ : Cl)) = (oneLR l z))) rfl) ?_))))
    refine A.postK [0] [(.agg #[vS al'3 (addLR l (⟨z.zi, z.zp, z.zl, z.ya, z.yb, z.yc, z.va, z.vb, z.vc, z.wa, z.wb, z.wc, z.zn, z.zq⟩ : Cl)) cl'4, i_ 0])] (fun aa ww rr ss => ⟨rv_cellN (vs := [vS al'3 (addLR l (⟨z.zi, z.zp, z.zl, z.ya, z.yb, z.yc, z.va, z.vb, z.vc, z.wa, z.wb, z.wc, z.zn, z.zq⟩ : Cl)) cl'4, i_ 0]) rr ss rfl (by kernel_rfl) (reads_blk (i := 2) rfl rfl), trivial⟩) (al'3, cl'4) ?_ ?_ (by kernel_rfl)
    · show ((.agg #[vS al'3 (addLR l (⟨z.zi, z.zp, z.zl, z.ya, z.yb, z.yc, z.va, z.vb, z.vc, z.wa, z.wb, z.wc, z.zn, z.zq⟩ : Cl)) cl'4, i_ 0]) : Value) = (.agg #[vS al'3 (oneLR l z) cl'4, i_ 0])
      (unfold oneLR; simp [*]; rfl)
    trivial
  have p1 := e1; try simp only [nrm] at p1
  refine A.sr (A.g [.p, .p] [7] [(13, b_ (z.zk == 2))] ?_)
  refine A.tn (A.cn (z.zk == 2) (fun e3 => ?_) (fun e3 => ?_))
  · have p3 := e3; try simp only [nrm] at p3
    refine A.sr (A.gpk [.p, .p, .p, .ld 0] [0, 3, 6, 13] [(15, vS al l cl), (18, i_ z.zi)] [b1] T0 trivial ?_)
    refine A.cons (A.cT (some 19) [vS al l cl, i_ z.zi] [] ((fun (zz : Option Addr × Nat) => match zz with | (al'6, cl'7) => (.agg #[vS al'6 (delLR l z.zi) cl'7, i_ 0]))) ((fun (zz : Option Addr × Nat) => match zz with | (al'6, cl'7) => True)) ((fun (zz : Option Addr × Nat) => match zz with | (al'6, cl'7) => [sCl al'6 (delLR l z.zi) cl'7])) (fun ww ss hh => rdel_ok al l cl z.zi (by assumption) (by (((have h_ := hok)); unfold oneER at h_; simp_all; done)) ww ((rd_old r0 (by simp [feet])) ww ss) hh) ?_)
    rintro ⟨al'6, cl'7⟩ -
    refine A.gs [.st 2] [15, 18, 19] [] [(2, blk b2 [vS al'6 (delLR l z.zi) cl'7, i_ 0] 56)] [b2] ?_
    refine A.tn (A.ret (A.br (A.tr (A.setH [sCl al'6 (oneLR l z) cl'7, blk b1 (encZc z) 50, blk b2 [vS al'6 (delLR l z.zi) cl'7, i_ 0] 56] (cc (slC (by (unfold oneLR; simp_all; done) : (delLR l z.zi) = (oneLR l z))) rfl) ?_))))
    refine A.postK [0] [(.agg #[vS al'6 (delLR l z.zi) cl'7, i_ 0])] (fun aa ww rr ss => ⟨rv_cellN (vs := [vS al'6 (delLR l z.zi) cl'7, i_ 0]) rr ss rfl (by kernel_rfl) (reads_blk (i := 2) rfl rfl), trivial⟩) (al'6, cl'7) ?_ ?_ (by kernel_rfl)
    · show ((.agg #[vS al'6 (delLR l z.zi) cl'7, i_ 0]) : Value) = (.agg #[vS al'6 (oneLR l z) cl'7, i_ 0])
      (unfold oneLR; simp_all; done)
    trivial
  have p3 := e3; try simp only [nrm] at p3
  refine A.sr (A.g [.p, .p] [6, 13] [(20, b_ (z.zk == 3))] ?_)
  refine A.tn (A.cn (z.zk == 3) (fun e5 => ?_) (fun e5 => ?_))
  · have p5 := e5; try simp only [nrm] at p5
    refine A.sr (A.gpk [.p, .p, .ld 0] [0, 3, 20] [(22, vS al l cl), (24, (.agg #[i_ z.zi, i_ z.zp, b_ z.zl, u_ z.ya, u_ z.yb, u_ z.yc, u_ z.va, u_ z.vb, u_ z.vc, u_ z.wa, u_ z.wb, u_ z.wc, i_ z.zn, i_ z.zq]))] [b1] T0 trivial ?_)
    refine A.cons (A.cT (some 25) [vS al l cl, (.agg #[i_ z.zi, i_ z.zp, b_ z.zl, u_ z.ya, u_ z.yb, u_ z.yc, u_ z.va, u_ z.vb, u_ z.vc, u_ z.wa, u_ z.wb, u_ z.wc, i_ z.zn, i_ z.zq])] [] ((fun (zz : Option Addr × Nat) => match zz with | (al'9, cl'10) => (.agg #[vS al'9 (setLR l (⟨z.zi, z.zp, z.zl, z.ya, z.yb, z.yc, z.va, z.vb, z.vc, z.wa, z.wb, z.wc, z.zn, z.zq⟩ : Cl)) cl'10, i_ 0]))) ((fun (zz : Option Addr × Nat) => match zz with | (al'9, cl'10) => True)) ((fun (zz : Option Addr × Nat) => match zz with | (al'9, cl'10) => [sCl al'9 (setLR l (⟨z.zi, z.zp, z.zl, z.ya, z.yb, z.yc, z.va, z.vb, z.vc, z.wa, z.wb, z.wc, z.zn, z.zq⟩ : Cl)) cl'10])) (fun ww ss hh => rset_ok al l cl (⟨z.zi, z.zp, z.zl, z.ya, z.yb, z.yc, z.va, z.vb, z.vc, z.wa, z.wb, z.wc, z.zn, z.zq⟩ : Cl) (by assumption) (by (((have h_ := hok)); unfold oneER at h_; simp_all; exact h_)) ww ((rd_old r0 (by simp [feet])) ww ss) hh) ?_)
    rintro ⟨al'9, cl'10⟩ -
    refine A.gs [.st 2] [22, 24, 25] [] [(2, blk b2 [vS al'9 (setLR l (⟨z.zi, z.zp, z.zl, z.ya, z.yb, z.yc, z.va, z.vb, z.vc, z.wa, z.wb, z.wc, z.zn, z.zq⟩ : Cl)) cl'10, i_ 0] 56)] [b2] ?_
    refine A.tn (A.ret (A.br (A.tr (A.setH [sCl al'9 (oneLR l z) cl'10, blk b1 (encZc z) 50, blk b2 [vS al'9 (setLR l (⟨z.zi, z.zp, z.zl, z.ya, z.yb, z.yc, z.va, z.vb, z.vc, z.wa, z.wb, z.wc, z.zn, z.zq⟩ : Cl)) cl'10, i_ 0] 56] (cc (slC (by (unfold oneLR; simp [*]; rfl) : (setLR l (⟨z.zi, z.zp, z.zl, z.ya, z.yb, z.yc, z.va, z.vb, z.vc, z.wa, z.wb, z.wc, z.zn, z.zq⟩ : Cl)) = (oneLR l z))) rfl) ?_))))
    refine A.postK [0] [(.agg #[vS al'9 (setLR l (⟨z.zi, z.zp, z.zl, z.ya, z.yb, z.yc, z.va, z.vb, z.vc, z.wa, z.wb, z.wc, z.zn, z.zq⟩ : Cl)) cl'10, i_ 0])] (fun aa ww rr ss => ⟨rv_cellN (vs := [vS al'9 (setLR l (⟨z.zi, z.zp, z.zl, z.ya, z.yb, z.yc, z.va, z.vb, z.vc, z.wa, z.wb, z.wc, z.zn, z.zq⟩ : Cl)) cl'10, i_ 0]) rr ss rfl (by kernel_rfl) (reads_blk (i := 2) rfl rfl), trivial⟩) (al'9, cl'10) ?_ ?_ (by kernel_rfl)
    · show ((.agg #[vS al'9 (setLR l (⟨z.zi, z.zp, z.zl, z.ya, z.yb, z.yc, z.va, z.vb, z.vc, z.wa, z.wb, z.wc, z.zn, z.zq⟩ : Cl)) cl'10, i_ 0]) : Value) = (.agg #[vS al'9 (oneLR l z) cl'10, i_ 0])
      (unfold oneLR; simp [*]; rfl)
    trivial
  have p5 := e5; try simp only [nrm] at p5
  refine A.skip (A.bn (tsr (A.gs [.p, .p, .st 1] [0, 3, 20] [] [(1, blk b2 [vS al l cl, i_ 1] 56)] [b2] ?_)))
  exact A.tn (A.ret (absurd hok (by unfold oneER; simp_all)))

theorem sameR_spec (al : Option Addr) (l : List Cl) (cl : Nat) (bl : Option Addr) (m : List Cl) (dl : Nat) (hl : l.length ≤ 100000) (w : World) (r0 : arrAt w al (V.flat encCl l)) (r1 : arrAt w bl (V.flat encCl m)) :
    Calls Tryz.prog 30 #[vS al l cl, vS bl m dl] w fun e w' => e = .returned (b_ (l == m)) ∧ Fr [] w w' := by
  refine calls_of (args := [vS al l cl, vS bl m dl]) (penv [vS al l cl, vS bl m dl]) [] [] Tryz.func30 rfl rfl (look_penv _) (HS.nil w) ?_
  refine A.sr (A.g [.p] [] [] ?_)
  refine A.tn (A.seq (A.sr (A.g [.p, .p, .p, .p, .p] [] [(11, b_ ((l.length : Int) != (m.length : Int)))] ?_)))
  refine A.tn (A.cn ((l.length : Int) != (m.length : Int)) (fun e1 => ?_) (fun e1 => ?_))
  · have p1 := e1; try simp only [nrm] at p1
    refine A.sr (A.g [.p] [0, 1, 11] [(4, b_ false)] ?_)
    refine A.tn (A.ret (A.tr (A.pQ [b_ false] ?_)))
    show ((b_ false) : Value) = (b_ (l == m))
    refine congrArg Value.bool ?_; exact neC_len (by assumption)
  have p1 := e1; try simp only [nrm] at p1
  refine A.skip (A.tn (A.seq (A.sr (A.g [.p, .p, .p] [0, 11] [(12, vS al l cl), (13, c_ l.length), (14, i_ 0)] ?_))))
  refine A.tn (A.block (A.loop (fun (zz : Nat) => match zz with | k => [(1, vS bl m dl), (12, vS al l cl), (13, c_ l.length), (14, c_ k)]) (fun (zz : Nat) => match zz with | k => []) (fun (zz : Nat) => match zz with | k => (k ≤ l.length) ∧ (∀ j, j < k → l[j]? = m[j]?)) (fun (zz : Nat) => match zz with | k => l.length - k) (0 : Nat) ⟨(by omega), (by intro j hj; omega)⟩ ?_ ?_))
  · exact A.hK []
  rintro k ⟨hk, hn⟩
  refine A.sr (A.g [.p] [] [(15, b_ (decide ((k : Int) < (l.length : Int))))] ?_)
  refine A.tn (A.seq (A.cn (decide ((k : Int) < (l.length : Int))) (fun e2 => ?_) (fun e2 => ?_)))
  · have p2 := of_decide_eq_true e2
    refine A.skip (A.tn (A.seq (A.block (A.sr (A.gpk [.p, .ix] [15] [(16, c_ k), (17, (.pointer (some ((at0 al).add (k * 14)))))] [] (fun κ => κ.ix al l.length (k : Int) ∧ True) ⟨(ixOf encCl_len (by decide) (rd_old r0 (by simp [feet])) (by omega)), trivial⟩ ?_)))))
    obtain ⟨x1, hx1⟩ : ∃ x, (l)[k]? = some x := ⟨_, List.getElem?_eq_getElem (by omega)⟩
    refine A.goA1 [.rd (encCl x1), .al, .p, .st 0] [1, 12, 13, 14, 6, 5] (fun b2 => [(1, vS bl m dl), (12, vS al l cl), (13, c_ l.length), (14, c_ k), (6, p_ b2), (5, c_ k)]) (fun b2 => [blk b2 (encCl x1) 48]) (fun b2 => [b2]) (fun _ => (fun κ => κ.rd ((at0 al).add (k * 14)) (encCl x1) ∧ True)) (fun _ => by kernel_rfl) (fun b2 => ⟨(reads_at0 (vs := (encCl x1)) encCl_len (rd_old r0 (by simp [feet])) hx1 (Nat.le_of_ble_eq_true rfl) rfl), trivial⟩) ?_
    intro b2
    refine A.tn (A.seq ?_)
    obtain ⟨x3, hx3⟩ : ∃ x, (m)[k]? = some x := ⟨_, List.getElem?_eq_getElem (by omega)⟩
    refine A.dA [.ld 0, .p, .p, .ix, .rd (encCl x3), .eq] [0, 1, 2, 3, 4, 5] [6, 5] [(24, b_ (!((x1.hi == x3.hi) && ((x1.hp == x3.hp) && ((x1.hl == x3.hl) && (((x1.ra == x3.ra) && ((x1.rb == x3.rb) && (x1.rc == x3.rc))) && (((x1.la == x3.la) && ((x1.lb == x3.lb) && (x1.lc == x3.lc))) && (((x1.ua == x3.ua) && ((x1.ub == x3.ub) && (x1.uc == x3.uc))) && ((x1.hk == x3.hk) && (x1.hq == x3.hq))))))))))] [b2] (fun κ => κ.ix bl m.length (k : Int) ∧ κ.rd ((at0 bl).add (k * 14)) (encCl x3) ∧ True) ⟨(ixOf encCl_len (by decide) (rd_old r1 (by simp [feet])) (by omega)), reads_at0 (vs := (encCl x3)) encCl_len (rd_old r1 (by simp [feet])) hx3 (Nat.le_of_ble_eq_true rfl) rfl, trivial⟩ ?_
    refine A.tn (A.cn (!((x1.hi == x3.hi) && ((x1.hp == x3.hp) && ((x1.hl == x3.hl) && (((x1.ra == x3.ra) && ((x1.rb == x3.rb) && (x1.rc == x3.rc))) && (((x1.la == x3.la) && ((x1.lb == x3.lb) && (x1.lc == x3.lc))) && (((x1.ua == x3.ua) && ((x1.ub == x3.ub) && (x1.uc == x3.uc))) && ((x1.hk == x3.hk) && (x1.hq == x3.hq))))))))) (fun e3 => ?_) (fun e3 => ?_))
    · have p3 := e3; try simp only [nrm] at p3
      refine A.sr (A.g [.p] [1, 12, 13, 14, 24] [(4, b_ false)] ?_)
      refine A.tn (A.ret (A.br (A.tr (A.tr (A.br (A.tr (A.pQ [b_ false] ?_)))))))
      show ((b_ false) : Value) = (b_ (l == m))
      refine congrArg Value.bool ?_; exact neC_at (by assumption) (by assumption) (by simp_all [cl_eq14])
    have p3 := e3; try simp only [nrm] at p3
    refine A.skip (A.bn (tr (A.gk [.w ((k : Int) + 1), .p] [24] [(14, i_ ((k : Int) + 1))] [] (fun κ => (IntKind.i64.wrap ((k : Int) + 1) = ((k : Int) + 1)) ∧ True) ⟨(wrap_i64 (e := (k : Int) + 1) (by constructor <;> omega)), trivial⟩ ?_)))
    refine A.tn (A.next (k + 1) ⟨(by omega), (by (intro j hj; rcases Nat.lt_or_ge j k with g | g; exact hn j g; (have e_ : j = k := by omega); subst e_; simp_all [cl_eq14]))⟩ (by (simp; omega)) ?_)
    exact A.hK []
  have p2 := of_decide_eq_false e2
  refine A.exit (A.te (A.te (A.bh (tsr (A.g [.p] [1, 12, 13, 14, 15] [(4, b_ true)] ?_)))))
  refine A.tn (A.ret (A.pQ [b_ true] ?_))
  show ((b_ true) : Value) = (b_ (l == m))
  refine congrArg Value.bool ?_; exact eqC_lists (by omega) (fun j hj => hn j (by omega))
end Go.Proofs.YtinnnoimmioaiaaGreat
