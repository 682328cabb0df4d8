/- What the functions of this layer do, proved operation by operation, for all arguments, under the conditions that each theorem states. -/
import Derived.Test.YtinnnoimmioaiaaProg
import Derived.Test.YtinnnoimmioaiaaTra7
namespace Go.Proofs.Ytinnnoimmioaiaa
open Go V
set_option linter.unusedVariables false
set_option linter.unusedSimpArgs false
def apR (l : List Cl) : List Zc → List Cl
  | [] => l
  | z :: c => apR (oneLR l z) c
theorem apR_app (z : Zc) : ∀ (c : List Zc) (l : List Cl), apR l (c ++ [z]) = oneLR (apR l c) z
  | [], _ => rfl
  | y :: c, l => apR_app z c (oneLR l y)
theorem apR_snoc {l : List Cl} {c : List Zc} {k : Nat} {z : Zc} (h : c[k]? = some z) : apR l (c.take (k + 1)) = oneLR (apR l (c.take k)) z := by
  rw [List.take_add_one, h]; exact apR_app z _ l
theorem kr_st {kv : List (Int × Cl)} {R : List Cl} (h : KR kv R) (hL : Laid kv) {z : Zc} (hz : ZcOk z) : KR (stK kv z) (oneLR R z) := by
  unfold stK oneLR
  by_cases h1 : z.zk = 1
  · rw [if_pos h1, if_pos h1]; exact kr_addK h hL (clZ_ok hz)
  · by_cases h2 : z.zk = 2
    · rw [if_neg h1, if_neg h1, if_neg (by omega), if_pos h2, if_pos h2]; exact kr_delK h _
    · by_cases h3 : z.zk = 3
      · rw [if_neg h1, if_neg h1, if_pos h3, if_neg h2, if_pos h3]; exact kr_setK h hL (clZ_ok hz)
      · rw [if_neg h1, if_neg h1, if_neg h3, if_neg h2, if_neg h2, if_neg h3]; exact h
theorem st_eq {kv : List (Int × Cl)} {R : List Cl} (h : KR kv R) (hL : Laid kv) {z : Zc} (hz : ZcOk z) : stE kv z = oneER R z := by
  unfold stE oneER
  by_cases h1 : z.zk = 1
  · rw [if_pos h1, if_pos h1]; exact add_eq h hL (clZ_ok hz)
  · by_cases h2 : z.zk = 2
    · rw [if_neg h1, if_neg h1, if_neg (by omega), if_pos h2, if_pos h2]; exact del_eq h _
    · by_cases h3 : z.zk = 3
      · rw [if_neg h1, if_neg h1, if_pos h3, if_neg h2, if_pos h3]; exact set_eq h hL (clZ_ok hz)
      · rw [if_neg h1, if_neg h1, if_neg h3, if_neg h2, if_neg h2, if_neg h3]
theorem kr_ap : ∀ {c : List Zc} {kv : List (Int × Cl)} {R : List Cl}, KR kv R → Laid kv → (∀ z ∈ c, ZcOk z) → KR (apK kv c) (apR R c)
  | [], _, _, h, _, _ => h
  | z :: c, _, _, h, hL, hz => kr_ap (c := c) (kr_st h hL (hz z (by simp))) (laid_st hL z) (fun y hy => hz y (by simp [hy]))
theorem apK_at {kv : List (Int × Cl)} {l : List Zc} {k : Nat} {z : Zc} (h : l[k]? = some z) : apK kv (l.take (k + 1)) = stK (apK kv (l.take k)) z := by
  rw [List.take_add_one, h]; exact apK_snoc z _ kv
theorem oneLR_no {l : List Cl} {z : Zc} (h : ¬ oneER l z = 0) : oneLR l z = l := by
  unfold oneER at h; unfold oneLR
  split
  · rename_i e; rw [if_pos e] at h; exact addLR_no h
  · rename_i e; rw [if_neg e] at h
    split
    · rename_i e2; rw [if_pos e2] at h; exact delLR_no h
    · rename_i e2; rw [if_neg e2] at h
      split
      · rename_i e3; rw [if_pos e3] at h; exact setLR_no h
      · rfl
theorem kr_aps {b : List Zc} (hb : ∀ z ∈ b, ZcOk z) : KR (apK [] b) (apR [] b) ∧ Laid (apK [] b) := ⟨kr_ap kr_nil laid_nil hb, laid_ap laid_nil⟩

set_option maxHeartbeats 4000000 in
set_option maxRecDepth 100000 in
theorem tree_spec (al : Option Addr) (l : List Zc) (cl : Nat) (hl : l.length ≤ 100) (hz : ∀ z ∈ l, ZcOk z) (w : World) (r0 : arrAt w al (V.flat encZc l)) (hs : HS w (feet []) [] w) :
    Calls Try.prog 26 #[vS al l cl] w fun e w' => ∃ zz, e = .returned ((fun (zz : Nat × Nat × (Option Addr) × Nat) => match zz with | (bt, mb, ao, co) => (.tuple #[p_ bt, vS ao (apR [] l) co])) zz) ∧ (fun (zz : Nat × Nat × (Option Addr) × Nat) => match zz with | (bt, mb, ao, co) => True) zz ∧ Turn [] ((fun (zz : Nat × Nat × (Option Addr) × Nat) => match zz with | (bt, mb, ao, co) => [blk bt [(.map (some mb))] 124, mHI mb (apK [] l), sCl ao (apR [] l) co]) zz) w w' := by
  refine calls_of (args := [vS al l cl]) (penv [vS al l cl]) (feet []) [] Try.func26 rfl rfl (look_penv _) hs ?_
  refine A.norm [(0, vS al l cl)] [] (by exact ⟨rfl, trivial⟩) rfl ?_
  refine A.seq (A.region (A.goA [.p, .p] [(0, vS al l cl)] [] T0 (by kernel_rfl) trivial ?_))
  refine A.tn (A.seq (A.region (A.cons (A.callT (some 8) [] [] ((fun zz => match zz with | (bt1, mb2) => (p_ bt1))) ((fun zz => match zz with | (bt1, mb2) => True)) ((fun zz => match zz with | (bt1, mb2) => [blk bt1 [(.map (some mb2))] 124, mHI mb2 ([] : List (Int × Cl))])) (fun zz => match zz with | (bt1, mb2) => [blk bt1 [(.map (some mb2))] 124, mHI mb2 ([] : List (Int × Cl))]) (by kernel_rfl) rfl rfl (fun ww ss hh => hnew_spec ww hh) (fun _ => rfl) ?_))))
  rintro ⟨bt1, mb2⟩ -
  refine A.goA [.p] [(0, vS al l cl), (4, p_ bt1)] [] T0 (by kernel_rfl) trivial ?_
  refine A.tn (A.seq (A.region (A.goA [.p] [(0, vS al l cl), (4, p_ bt1), (5, e_)] [] T0 (by kernel_rfl) trivial ?_)))
  refine A.tn (A.seq (A.seq (A.region (A.goA [.p, .p, .p] [(4, p_ bt1), (5, e_), (9, vS al l cl), (10, c_ l.length), (11, i_ 0)] [] T0 (by kernel_rfl) trivial ?_))))
  refine A.tn (A.block (A.ownNil 98 14 [blk bt1 [(.map (some mb2))] 124, mHI mb2 ([] : List (Int × Cl)), sCl none ([] : List Cl) 0] rfl ?_))
  refine A.loop (fun (zz : Nat × (List (Int × Cl)) × (List Cl) × (Option Addr) × Nat) => match zz with | (k, kv, R, ar, cr) => [(4, p_ bt1), (9, vS al l cl), (10, c_ l.length), (11, c_ k), (5, vS ar R cr)]) (fun (zz : Nat × (List (Int × Cl)) × (List Cl) × (Option Addr) × Nat) => match zz with | (k, kv, R, ar, cr) => [blk bt1 [(.map (some mb2))] 124, mHI mb2 kv, sCl ar R cr]) (fun (zz : Nat × (List (Int × Cl)) × (List Cl) × (Option Addr) × Nat) => match zz with | (k, kv, R, ar, cr) => (k ≤ l.length) ∧ (kv = apK [] (l.take k)) ∧ (R = apR [] (l.take k)) ∧ (KR kv R) ∧ (Laid kv)) (fun (zz : Nat × (List (Int × Cl)) × (List Cl) × (Option Addr) × Nat) => match zz with | (k, kv, R, ar, cr) => l.length - k) (0, ([] : List (Int × Cl)), ([] : List Cl), none, 0) ⟨(by omega), (by rfl), (by rfl), (by exact kr_nil), (by exact laid_nil)⟩ ?_ ?_
  · exact A.hereK [0, 0, 0] (by exact ⟨rfl, rfl, rfl, rfl, rfl, trivial⟩) (by kernel_rfl)
  · rintro ⟨k, kv, R, ar, cr⟩ ⟨hk, hv, hw, hK, hL⟩
    have hkl := kr_len hK; have hll := hL.len
    refine A.norm [(4, p_ bt1), (9, vS al l cl), (10, c_ l.length), (11, c_ k), (5, vS ar R cr)] [blk bt1 [(.map (some mb2))] 124, mHI mb2 kv, sCl ar R cr] (by exact ⟨rfl, rfl, rfl, rfl, rfl, trivial⟩) rfl ?_
    refine A.seq (A.region (A.goA [.p] [(4, p_ bt1), (9, vS al l cl), (10, c_ l.length), (11, c_ k), (5, vS ar R cr), (12, b_ (decide ((k : Int) < (l.length : Int))))] [] T0 (by kernel_rfl) trivial ?_))
    refine A.tn (A.seq (A.cond (E := decide ((k : Int) < (l.length : Int))) rfl (fun e2 => ?_) (fun e2 => ?_)))
    · skip
      have p2 := of_decide_eq_true e2
      refine A.skip (A.tn (A.seq (A.block (A.seq (A.region (A.goP [.ix] [(4, p_ bt1), (9, vS al l cl), (10, c_ l.length), (11, c_ k), (5, vS ar R cr), (13, (.pointer (some ((at0 al).add (k * 15)))))] [] (fun κ => κ.ix al l.length (k : Int) ∧ True) (by kernel_rfl) ⟨(ixOf encZc_len (by decide) (rd_old r0 (by simp [feet])) (by first | omega | (simp; omega) | (simp; done))), trivial⟩ ?_))))))
      obtain ⟨x4, hx4⟩ : ∃ x, (l)[k]? = some x := ⟨_, List.getElem?_eq_getElem (by omega)⟩
      refine A.goA1 [.rd (encZc x4), .al, .st 3] [4, 9, 10, 11, 5, 7] (fun b5 => [(4, p_ bt1), (9, vS al l cl), (10, c_ l.length), (11, c_ k), (5, vS ar R cr), (7, p_ b5)]) (fun b5 => [blk bt1 [(.map (some mb2))] 124, mHI mb2 kv, sCl ar R cr, blk b5 (encZc x4) 111]) (fun b5 => [b5]) (fun _ => (fun κ => κ.rd ((at0 al).add (k * 15)) (encZc x4) ∧ True)) (fun _ => by kernel_rfl) (fun b5 => ⟨(reads_at0 (vs := (encZc x4)) encZc_len (rd_old r0 (by simp [feet])) hx4 (Nat.le_of_ble_eq_true rfl) rfl), trivial⟩) ?_
      intro b5
      refine A.tn (A.cutx (fun (zz : (List (Int × Cl))) => match zz with | kv2 => [(4, p_ bt1), (9, vS al l cl), (10, c_ l.length), (11, c_ k), (5, vS ar R cr), (7, p_ b5)]) (fun (zz : (List (Int × Cl))) => match zz with | kv2 => [blk bt1 [(.map (some mb2))] 124, mHI mb2 kv2, sCl ar R cr, blk b5 (encZc x4) 111]) (fun (zz : (List (Int × Cl))) => match zz with | kv2 => (kv2 = stK kv x4)) ?_ ?_)
      · skip
        refine A.seq (A.region (A.goA [.p, .ld 3] [(4, p_ bt1), (9, vS al l cl), (10, c_ l.length), (11, c_ k), (5, vS ar R cr), (7, p_ b5), (16, i_ x4.zk)] [b5] T0 (by kernel_rfl) trivial ?_))
        refine A.tn (A.block (A.seq (A.region (A.goA [.p, .p] [(4, p_ bt1), (9, vS al l cl), (10, c_ l.length), (11, c_ k), (5, vS ar R cr), (7, p_ b5), (16, i_ x4.zk), (17, b_ (x4.zk == 1))] [] T0 (by kernel_rfl) trivial ?_))))
        refine A.tn (A.cond (E := x4.zk == 1) rfl (fun e3 => ?_) (fun e3 => ?_))
        · skip
          have p3 := e3; try simp only [nrm] at p3
          refine A.region (A.goP [.p, .p, .ld 3] [(4, p_ bt1), (9, vS al l cl), (10, c_ l.length), (11, c_ k), (5, vS ar R cr), (7, p_ b5), (19, p_ bt1), (21, (.agg #[i_ x4.zi, i_ x4.zp, b_ x4.zl, u_ x4.ya, u_ x4.yb, u_ x4.yc, u_ x4.va, u_ x4.vb, u_ x4.vc, u_ x4.wa, u_ x4.wb, u_ x4.wc, i_ x4.zn, i_ x4.zq]))] [b5] T0 (by kernel_rfl) trivial ?_)
          refine A.cons (A.callT (some 22) [p_ bt1, (.agg #[i_ x4.zi, i_ x4.zp, b_ x4.zl, u_ x4.ya, u_ x4.yb, u_ x4.yc, u_ x4.va, u_ x4.vb, u_ x4.vc, u_ x4.wa, u_ x4.wb, u_ x4.wc, i_ x4.zn, i_ x4.zq])] [0, 0] ((fun kv'6 => (i_ (addE kv (⟨x4.zi, x4.zp, x4.zl, x4.ya, x4.yb, x4.yc, x4.va, x4.vb, x4.vc, x4.wa, x4.wb, x4.wc, x4.zn, x4.zq⟩ : Cl))))) ((fun kv'6 => kv'6 = addK kv (⟨x4.zi, x4.zp, x4.zl, x4.ya, x4.yb, x4.yc, x4.va, x4.vb, x4.vc, x4.wa, x4.wb, x4.wc, x4.zn, x4.zq⟩ : Cl))) ((fun kv'6 => [blk bt1 [(.map (some mb2))] 124, mHI mb2 kv'6])) (fun kv'6 => [blk bt1 [(.map (some mb2))] 124, mHI mb2 kv'6, sCl ar R cr, blk b5 (encZc x4) 111]) (by kernel_rfl) rfl rfl (fun ww ss hh => add_ok bt1 mb2 kv (⟨x4.zi, x4.zp, x4.zl, x4.ya, x4.yb, x4.yc, x4.va, x4.vb, x4.vc, x4.wa, x4.wb, x4.wc, x4.zn, x4.zq⟩ : Cl) (by first | assumption | exact hL.dep | exact hL.len | omega | (have h_ := hL.len; omega)) (by first | assumption | exact hL.dep | exact hL.len | omega | (have h_ := hL.len; omega)) ww hh) (fun _ => rfl) ?_)
          rintro kv'6 hz4
          refine A.done ?_
          refine A.bn (A.tn (A.meet (kv'6) (by (unfold stK; first | (simp_all; done) | (simp [*]; rfl) | (simp_all; rfl) | grind)) ?_))
          exact A.hereK [0, 0, 0, 0] (by exact ⟨rfl, rfl, rfl, rfl, rfl, rfl, trivial⟩) (by kernel_rfl)
        · skip
          have p3 := e3; try simp only [nrm] at p3
          refine A.seq (A.region (A.goA [.p, .p] [(4, p_ bt1), (9, vS al l cl), (10, c_ l.length), (11, c_ k), (5, vS ar R cr), (7, p_ b5), (16, i_ x4.zk), (23, b_ (x4.zk == 2))] [] T0 (by kernel_rfl) trivial ?_))
          refine A.tn (A.cond (E := x4.zk == 2) rfl (fun e5 => ?_) (fun e5 => ?_))
          · skip
            have p5 := e5; try simp only [nrm] at p5
            refine A.region (A.goP [.p, .p, .p, .ld 3] [(4, p_ bt1), (9, vS al l cl), (10, c_ l.length), (11, c_ k), (5, vS ar R cr), (7, p_ b5), (25, p_ bt1), (28, i_ x4.zi)] [b5] T0 (by kernel_rfl) trivial ?_)
            refine A.cons (A.callT (some 29) [p_ bt1, i_ x4.zi] [0, 0] ((fun kv'7 => (i_ (delE kv x4.zi)))) ((fun kv'7 => kv'7 = delK kv x4.zi)) ((fun kv'7 => [blk bt1 [(.map (some mb2))] 124, mHI mb2 kv'7])) (fun kv'7 => [blk bt1 [(.map (some mb2))] 124, mHI mb2 kv'7, sCl ar R cr, blk b5 (encZc x4) 111]) (by kernel_rfl) rfl rfl (fun ww ss hh => del_ok bt1 mb2 kv x4.zi (by first | assumption | exact hL.dep | exact hL.len | omega | (have h_ := hL.len; omega)) ww hh) (fun _ => rfl) ?_)
            rintro kv'7 hz6
            refine A.done ?_
            refine A.bn (A.tn (A.meet (kv'7) (by (unfold stK; first | (simp_all; done) | (simp [*]; rfl) | (simp_all; rfl) | grind)) ?_))
            exact A.hereK [0, 0, 0, 0] (by exact ⟨rfl, rfl, rfl, rfl, rfl, rfl, trivial⟩) (by kernel_rfl)
          · skip
            have p5 := e5; try simp only [nrm] at p5
            refine A.seq (A.region (A.goA [.p, .p] [(4, p_ bt1), (9, vS al l cl), (10, c_ l.length), (11, c_ k), (5, vS ar R cr), (7, p_ b5), (30, b_ (x4.zk == 3))] [] T0 (by kernel_rfl) trivial ?_))
            refine A.tn (A.cond (E := x4.zk == 3) rfl (fun e7 => ?_) (fun e7 => ?_))
            · skip
              have p7 := e7; try simp only [nrm] at p7
              refine A.region (A.goP [.p, .p, .ld 3] [(4, p_ bt1), (9, vS al l cl), (10, c_ l.length), (11, c_ k), (5, vS ar R cr), (7, p_ b5), (32, p_ bt1), (34, (.agg #[i_ x4.zi, i_ x4.zp, b_ x4.zl, u_ x4.ya, u_ x4.yb, u_ x4.yc, u_ x4.va, u_ x4.vb, u_ x4.vc, u_ x4.wa, u_ x4.wb, u_ x4.wc, i_ x4.zn, i_ x4.zq]))] [b5] T0 (by kernel_rfl) trivial ?_)
              refine A.cons (A.callT (some 35) [p_ bt1, (.agg #[i_ x4.zi, i_ x4.zp, b_ x4.zl, u_ x4.ya, u_ x4.yb, u_ x4.yc, u_ x4.va, u_ x4.vb, u_ x4.vc, u_ x4.wa, u_ x4.wb, u_ x4.wc, i_ x4.zn, i_ x4.zq])] [0, 0] ((fun kv'8 => (i_ (setE kv (⟨x4.zi, x4.zp, x4.zl, x4.ya, x4.yb, x4.yc, x4.va, x4.vb, x4.vc, x4.wa, x4.wb, x4.wc, x4.zn, x4.zq⟩ : Cl))))) ((fun kv'8 => kv'8 = setK kv (⟨x4.zi, x4.zp, x4.zl, x4.ya, x4.yb, x4.yc, x4.va, x4.vb, x4.vc, x4.wa, x4.wb, x4.wc, x4.zn, x4.zq⟩ : Cl))) ((fun kv'8 => [blk bt1 [(.map (some mb2))] 124, mHI mb2 kv'8])) (fun kv'8 => [blk bt1 [(.map (some mb2))] 124, mHI mb2 kv'8, sCl ar R cr, blk b5 (encZc x4) 111]) (by kernel_rfl) rfl rfl (fun ww ss hh => set_ok bt1 mb2 kv (⟨x4.zi, x4.zp, x4.zl, x4.ya, x4.yb, x4.yc, x4.va, x4.vb, x4.vc, x4.wa, x4.wb, x4.wc, x4.zn, x4.zq⟩ : Cl) (by first | assumption | exact hL.dep | exact hL.len | omega | (have h_ := hL.len; omega)) ww hh) (fun _ => rfl) ?_)
              rintro kv'8 hz8
              refine A.done ?_
              refine A.bn (A.tn (A.meet (kv'8) (by (unfold stK; first | (simp_all; done) | (simp [*]; rfl) | (simp_all; rfl) | grind)) ?_))
              exact A.hereK [0, 0, 0, 0] (by exact ⟨rfl, rfl, rfl, rfl, rfl, rfl, trivial⟩) (by kernel_rfl)
            · skip
              have p7 := e7; try simp only [nrm] at p7
              refine A.skip (A.bn (A.tn (A.meet (kv) (by (unfold stK; first | (simp_all; done) | (simp [*]; rfl) | (simp_all; rfl) | grind)) ?_)))
              exact A.hereK [0, 0, 0, 0] (by exact ⟨rfl, rfl, rfl, rfl, rfl, rfl, trivial⟩) (by kernel_rfl)
      · rintro kv2 hq
        have hq : kv2 = stK kv x4 := hq
        refine A.norm [(4, p_ bt1), (9, vS al l cl), (10, c_ l.length), (11, c_ k), (5, vS ar R cr), (7, p_ b5)] [blk bt1 [(.map (some mb2))] 124, mHI mb2 kv2, sCl ar R cr, blk b5 (encZc x4) 111] (by exact ⟨rfl, rfl, rfl, rfl, rfl, rfl, trivial⟩) rfl ?_
        by_cases hr : oneER R x4 = 0
        · skip
          refine A.region (A.goP [.p, .ld 3] [(4, p_ bt1), (9, vS al l cl), (10, c_ l.length), (11, c_ k), (5, vS ar R cr), (36, vS ar R cr), (37, (.agg (encZc x4).toArray))] [b5] T0 (by kernel_rfl) trivial ?_)
          refine A.cons (A.callT (some 38) [vS ar R cr, (.agg (encZc x4).toArray)] [] ((fun zz => match zz with | (al'9, cl'10) => (.agg #[vS al'9 (oneLR R x4) cl'10, i_ 0]))) ((fun zz => match zz with | (al'9, cl'10) => True)) ((fun zz => match zz with | (al'9, cl'10) => [sCl al'9 (oneLR R x4) cl'10])) (fun zz => match zz with | (al'9, cl'10) => [sCl al'9 (oneLR R x4) cl'10, blk bt1 [(.map (some mb2))] 124, mHI mb2 kv2, sCl ar R cr, blk b5 (encZc x4) 111]) (by kernel_rfl) rfl rfl (fun ww ss hh => rone_ok ar R cr x4 (by first | assumption | exact hL.dep | exact hL.len | omega | (have h_ := hL.len; omega)) (by first | assumption | exact hL.dep | exact hL.len | omega | (have h_ := hL.len; omega)) ww ((rd_sl (i := 2) rfl) ww ss) hh) (fun _ => rfl) ?_)
          rintro ⟨al'9, cl'10⟩ -
          refine A.goA [.p, .p] [(4, p_ bt1), (9, vS al l cl), (10, c_ l.length), (11, c_ k), (5, vS al'9 (oneLR R x4) cl'10)] [] T0 (by kernel_rfl) trivial ?_
          refine A.bn (A.tn (A.region (A.goA [.w ((k : Int) + 1), .p] [(4, p_ bt1), (9, vS al l cl), (10, c_ l.length), (11, i_ ((k : Int) + 1)), (5, vS al'9 (oneLR R x4) cl'10)] [] (fun κ => (IntKind.i64.wrap ((k : Int) + 1) = ((k : Int) + 1)) ∧ True) (by kernel_rfl) ⟨(wrap_i64 (e := (k : Int) + 1) (by constructor <;> omega)), trivial⟩ ?_)))
          refine A.tn (A.next (k + 1, kv2, oneLR R x4, al'9, cl'10) ⟨(by omega), (by (rw [apK_at (by assumption), ← hv]; first | assumption | (rw [hq]))), (by (first | (rw [apR_snoc (by assumption), ← hw]; done) | (rw [apR_snoc (by assumption), ← hw, oneLR_no hr]; done))), (by (have h_ := kr_st hK hL (hz _ (List.mem_of_getElem? (by assumption))); rw [hq]; first | exact h_ | (rw [oneLR_no hr] at h_; exact h_))), (by (rw [hq]; exact laid_st hL _))⟩ (by (show l.length - (k + 1) < l.length - k; omega)) ?_)
          exact A.hereK [1, 1, 0] (by exact ⟨rfl, rfl, rfl, rfl, rfl, trivial⟩) (by kernel_rfl)
        · skip
          refine A.region (A.goP [.p, .ld 3] [(4, p_ bt1), (9, vS al l cl), (10, c_ l.length), (11, c_ k), (5, vS ar R cr), (36, vS ar R cr), (37, (.agg (encZc x4).toArray))] [b5] T0 (by kernel_rfl) trivial ?_)
          refine A.cons (A.callT (some 38) [vS ar R cr, (.agg (encZc x4).toArray)] [] ((fun _ => (.agg #[vS ar R cr, i_ (oneER R x4)]))) ((fun _ => True)) ((fun _ => [])) (fun _ => [blk bt1 [(.map (some mb2))] 124, mHI mb2 kv2, sCl ar R cr, blk b5 (encZc x4) 111]) (by kernel_rfl) rfl rfl (fun ww ss hh => rone_no ar R cr x4 (by first | assumption | exact hL.dep | exact hL.len | omega | (have h_ := hL.len; omega)) (by first | assumption | exact hL.dep | exact hL.len | omega | (have h_ := hL.len; omega)) ww ((rd_sl (i := 2) rfl) ww ss) hh) (fun _ => rfl) ?_)
          rintro ⟨⟩ -
          refine A.goA [.p, .p] [(4, p_ bt1), (9, vS al l cl), (10, c_ l.length), (11, c_ k), (5, vS ar R cr)] [] T0 (by kernel_rfl) trivial ?_
          refine A.bn (A.tn (A.region (A.goA [.w ((k : Int) + 1), .p] [(4, p_ bt1), (9, vS al l cl), (10, c_ l.length), (11, i_ ((k : Int) + 1)), (5, vS ar R cr)] [] (fun κ => (IntKind.i64.wrap ((k : Int) + 1) = ((k : Int) + 1)) ∧ True) (by kernel_rfl) ⟨(wrap_i64 (e := (k : Int) + 1) (by constructor <;> omega)), trivial⟩ ?_)))
          refine A.tn (A.next (k + 1, kv2, R, ar, cr) ⟨(by omega), (by (rw [apK_at (by assumption), ← hv]; first | assumption | (rw [hq]))), (by (first | (rw [apR_snoc (by assumption), ← hw]; done) | (rw [apR_snoc (by assumption), ← hw, oneLR_no hr]; done))), (by (have h_ := kr_st hK hL (hz _ (List.mem_of_getElem? (by assumption))); rw [hq]; first | exact h_ | (rw [oneLR_no hr] at h_; exact h_))), (by (rw [hq]; exact laid_st hL _))⟩ (by (show l.length - (k + 1) < l.length - k; omega)) ?_)
          exact A.hereK [0, 0, 0] (by exact ⟨rfl, rfl, rfl, rfl, rfl, trivial⟩) (by kernel_rfl)
    · skip
      have p2 := of_decide_eq_false e2
      refine A.exit (A.te (A.te (A.bh (A.tn (A.seq (A.region (A.goA [.p, .p, .p, .p] [(2, p_ bt1), (3, vS ar R cr)] [] T0 (by kernel_rfl) trivial ?_)))))))
      refine A.tn (A.ret ?_)
      rw [show kv = (apK [] l) from by first | rfl | (rw [hv, List.take_of_length_le (by omega)]) | (rw [hw, List.take_of_length_le (by omega)])]
      refine A.setH [blk bt1 [(.map (some mb2))] 124, mHI mb2 (apK [] l), sCl ar (apR [] l) cr] (cc rfl (cc rfl (cc (slC (by first | rfl | (rw [hv, List.take_of_length_le (by omega)]) | (rw [hw, List.take_of_length_le (by omega)]) : R = (apR [] l))) rfl))) ?_
      refine A.postK [0, 0, 0] [p_ bt1, vS ar R cr] (fun aa ww rr ss => ⟨rv_tmp rr rfl, rv_tmp rr rfl, trivial⟩) (bt1, mb2, ar, cr) ?_ ?_ (by kernel_rfl)
      · show ((.tuple #[p_ bt1, vS ar R cr]) : Value) = (.tuple #[p_ bt1, vS ar (apR [] l) cr])
        first | rfl | (rw [hw, List.take_of_length_le (by omega)])
      · trivial
end Go.Proofs.Ytinnnoimmioaiaa
