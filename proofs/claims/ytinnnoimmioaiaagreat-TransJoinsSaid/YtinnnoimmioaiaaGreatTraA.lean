/- What the functions of this layer do, proved operation by operation, for all arguments, under the conditions that each theorem states. -/
import Derived.Test.YtinnnoimmioaiaaGreatProg
import Derived.Test.YtinnnoimmioaiaaGreatTra9
import Derived.Test.YtinnnoimmioaiaaGreatTra5
import Derived.Test.YtinnnoimmioaiaaGreatL2
namespace Go.Proofs.YtinnnoimmioaiaaGreat
open Go V
set_option linter.unusedVariables false
set_option linter.unusedSimpArgs false
set_option maxHeartbeats 4000000
set_option maxRecDepth 100000
theorem apK_at {kv : List (Int × Cl)} {l : List Zc} {k : Nat} {z : Zc} (h : l[k]? = some z) : apK kv (l.take (k + 1)) = stK (apK kv (l.take k)) z := by
  rw [List.take_add_one, h]; exact apK_snoc z _ kv
theorem oneLR_no {l : List Cl} {z : Zc} (h : ¬ oneER l z = 0) : oneLR l z = l := by
  unfold oneER at h; unfold oneLR
  split
  · rename_i e; rw [if_pos e] at h; exact addLR_no h
  · rename_i e; rw [if_neg e] at h
    split
    · rename_i e2; rw [if_pos e2] at h; exact delLR_no h
    · rename_i e2; rw [if_neg e2] at h
      split
      · rename_i e3; rw [if_pos e3] at h; exact setLR_no h
      · rfl
theorem ids_at {kv : List (Int × Cl)} {R : List Cl} (h : KR kv R) {k : Nat} {i : Int} (hi : (keysF kv (fun v_ => true))[k]? = some i) : ∃ y, R[k]? = some y ∧ y.hi = i ∧ gcl kv i = y ∧ gce kv i = 0 := by
  rw [kr_ids h, List.getElem?_map] at hi
  cases hy : R[k]? with
  | none => rw [hy] at hi; simp at hi
  | some y =>
    rw [hy] at hi; simp at hi
    have hm := kr_at h (List.mem_of_getElem? hy)
    rw [hi] at hm
    exact ⟨y, rfl, hi, gcl_of hm, by unfold gce; rw [hm]; rfl⟩

theorem tree_spec (al : Option Addr) (l : List Zc) (cl : Nat) (hl : l.length ≤ 100) (hz : ∀ z ∈ l, ZcOk z) (w : World) (r0 : arrAt w al (V.flat encZc l)) (hs : HS w (feet []) [] w) :
    Calls Tryz.prog 8 #[vS al l cl] w fun e w' => ∃ zz, e = .returned ((fun (zz : Nat × Nat × (Option Addr) × Nat) => match zz with | (bt, mb, ao, co) => (.tuple #[p_ bt, vS ao (apR [] l) co])) zz) ∧ (fun (zz : Nat × Nat × (Option Addr) × Nat) => match zz with | (bt, mb, ao, co) => True) zz ∧ Turn [] ((fun (zz : Nat × Nat × (Option Addr) × Nat) => match zz with | (bt, mb, ao, co) => [blk bt [(.map (some mb))] 77, mHI mb (apK [] l), sCl ao (apR [] l) co]) zz) w w' := by
  refine calls_of (args := [vS al l cl]) (penv [vS al l cl]) (feet []) [] Tryz.func8 rfl rfl (look_penv _) hs ?_
  refine A.sr (A.g [.p, .p] [] [] ?_)
  refine tsr (A.cons (A.cT (some 8) [] [] ((fun zz => match zz with | (bt1, mb2) => (p_ bt1))) ((fun zz => match zz with | (bt1, mb2) => True)) ((fun zz => match zz with | (bt1, mb2) => [blk bt1 [(.map (some mb2))] 77, mHI mb2 ([] : List (Int × Cl))])) (fun ww ss hh => hnew_spec ww hh) ?_))
  rintro ⟨bt1, mb2⟩ -
  refine A.g [.p] [8] [(4, p_ bt1)] ?_
  refine tsr (A.g [.p] [] [(5, e_)] ?_)
  refine A.tn (A.seq (A.sr (A.g [.p, .p, .p] [0] [(9, vS al l cl), (10, c_ l.length), (11, i_ 0)] ?_)))
  refine A.tn (A.block (A.ownNil 48 14 [blk bt1 [(.map (some mb2))] 77, mHI mb2 ([] : List (Int × Cl)), sCl none ([] : List Cl) 0] rfl ?_))
  refine A.loop (fun (zz : Nat × (List (Int × Cl)) × (List Cl) × (Option Addr) × Nat) => match zz with | (k, kv, R, ar, cr) => [(4, p_ bt1), (9, vS al l cl), (10, c_ l.length), (11, c_ k), (5, vS ar R cr)]) (fun (zz : Nat × (List (Int × Cl)) × (List Cl) × (Option Addr) × Nat) => match zz with | (k, kv, R, ar, cr) => [blk bt1 [(.map (some mb2))] 77, mHI mb2 kv, sCl ar R cr]) (fun (zz : Nat × (List (Int × Cl)) × (List Cl) × (Option Addr) × Nat) => match zz with | (k, kv, R, ar, cr) => (k ≤ l.length) ∧ (kv = apK [] (l.take k)) ∧ (R = apR [] (l.take k)) ∧ (KR kv R) ∧ (Laid kv)) (fun (zz : Nat × (List (Int × Cl)) × (List Cl) × (Option Addr) × Nat) => match zz with | (k, kv, R, ar, cr) => l.length - k) (0, ([] : List (Int × Cl)), ([] : List Cl), none, 0) ⟨(by omega), (by rfl), (by rfl), (by exact kr_nil), (by exact laid_nil)⟩ ?_ ?_
  · exact A.hK [0, 0, 0]
  rintro ⟨k, kv, R, ar, cr⟩ ⟨hk, hv, hw, hK, hL⟩
  have hkl := kr_len hK; have hll := hL.len
  refine A.sr (A.g [.p] [] [(12, b_ (decide ((k : Int) < (l.length : Int))))] ?_)
  refine A.tn (A.seq (A.cn (decide ((k : Int) < (l.length : Int))) (fun e2 => ?_) (fun e2 => ?_)))
  · have p2 := of_decide_eq_true e2
    refine A.skip (A.tn (A.seq (A.block (A.sr (A.gpk [.ix] [12] [(13, (.pointer (some ((at0 al).add (k * 15)))))] [] (fun κ => κ.ix al l.length (k : Int) ∧ True) ⟨(ixOf encZc_len (by decide) (rd_old r0 (by simp [feet])) (by omega)), trivial⟩ ?_)))))
    obtain ⟨x4, hx4⟩ : ∃ x, (l)[k]? = some x := ⟨_, List.getElem?_eq_getElem (by omega)⟩
    refine A.goA1 [.rd (encZc x4), .al, .st 3] [4, 9, 10, 11, 5, 7] (fun b5 => [(4, p_ bt1), (9, vS al l cl), (10, c_ l.length), (11, c_ k), (5, vS ar R cr), (7, p_ b5)]) (fun b5 => [blk bt1 [(.map (some mb2))] 77, mHI mb2 kv, sCl ar R cr, blk b5 (encZc x4) 50]) (fun b5 => [b5]) (fun _ => (fun κ => κ.rd ((at0 al).add (k * 15)) (encZc x4) ∧ True)) (fun _ => by kernel_rfl) (fun b5 => ⟨(reads_at0 (vs := (encZc x4)) encZc_len (rd_old r0 (by simp [feet])) hx4 (Nat.le_of_ble_eq_true rfl) rfl), trivial⟩) ?_
    intro b5
    refine A.tn (A.cutx (fun (zz : (List (Int × Cl))) => match zz with | kv2 => [(4, p_ bt1), (9, vS al l cl), (10, c_ l.length), (11, c_ k), (5, vS ar R cr), (7, p_ b5)]) (fun (zz : (List (Int × Cl))) => match zz with | kv2 => [blk bt1 [(.map (some mb2))] 77, mHI mb2 kv2, sCl ar R cr, blk b5 (encZc x4) 50]) (fun (zz : (List (Int × Cl))) => match zz with | kv2 => (kv2 = stK kv x4)) ?_ ?_)
    · refine A.sr (A.gk [.p, .ld 3] [] [(16, i_ x4.zk)] [b5] T0 trivial ?_)
      refine A.tn (A.block (A.sr (A.g [.p, .p] [] [(17, b_ (x4.zk == 1))] ?_)))
      refine A.tn (A.cn (x4.zk == 1) (fun e3 => ?_) (fun e3 => ?_))
      · have p3 := e3; try simp only [nrm] at p3
        refine A.region (A.gpk [.p, .p, .ld 3] [16, 17] [(19, p_ bt1), (21, (.agg #[i_ x4.zi, i_ x4.zp, b_ x4.zl, u_ x4.ya, u_ x4.yb, u_ x4.yc, u_ x4.va, u_ x4.vb, u_ x4.vc, u_ x4.wa, u_ x4.wb, u_ x4.wc, i_ x4.zn, i_ x4.zq]))] [b5] T0 trivial ?_)
        refine A.cons (A.cT (some 22) [p_ bt1, (.agg #[i_ x4.zi, i_ x4.zp, b_ x4.zl, u_ x4.ya, u_ x4.yb, u_ x4.yc, u_ x4.va, u_ x4.vb, u_ x4.vc, u_ x4.wa, u_ x4.wb, u_ x4.wc, i_ x4.zn, i_ x4.zq])] [0, 0] ((fun kv'6 => (i_ (addE kv (⟨x4.zi, x4.zp, x4.zl, x4.ya, x4.yb, x4.yc, x4.va, x4.vb, x4.vc, x4.wa, x4.wb, x4.wc, x4.zn, x4.zq⟩ : Cl))))) ((fun kv'6 => kv'6 = addK kv (⟨x4.zi, x4.zp, x4.zl, x4.ya, x4.yb, x4.yc, x4.va, x4.vb, x4.vc, x4.wa, x4.wb, x4.wc, x4.zn, x4.zq⟩ : Cl))) ((fun kv'6 => [blk bt1 [(.map (some mb2))] 77, mHI mb2 kv'6])) (fun ww ss hh => add_ok bt1 mb2 kv (⟨x4.zi, x4.zp, x4.zl, x4.ya, x4.yb, x4.yc, x4.va, x4.vb, x4.vc, x4.wa, x4.wb, x4.wc, x4.zn, x4.zq⟩ : Cl) (by exact hL.dep) (by assumption) ww hh) ?_)
        rintro kv'6 hz4
        refine A.done ?_
        refine A.bn (A.tn (A.meet (kv'6) (by (unfold stK; (simp [*]; rfl))) ?_))
        exact A.hK [0, 0, 0, 0]
      have p3 := e3; try simp only [nrm] at p3
      refine A.sr (A.g [.p, .p] [17] [(23, b_ (x4.zk == 2))] ?_)
      refine A.tn (A.cn (x4.zk == 2) (fun e5 => ?_) (fun e5 => ?_))
      · have p5 := e5; try simp only [nrm] at p5
        refine A.region (A.gpk [.p, .p, .p, .ld 3] [16, 23] [(25, p_ bt1), (28, i_ x4.zi)] [b5] T0 trivial ?_)
        refine A.cons (A.cT (some 29) [p_ bt1, i_ x4.zi] [0, 0] ((fun kv'7 => (i_ (delE kv x4.zi)))) ((fun kv'7 => kv'7 = delK kv x4.zi)) ((fun kv'7 => [blk bt1 [(.map (some mb2))] 77, mHI mb2 kv'7])) (fun ww ss hh => del_ok bt1 mb2 kv x4.zi (by omega) ww hh) ?_)
        rintro kv'7 hz6
        refine A.done ?_
        refine A.bn (A.tn (A.meet (kv'7) (by (unfold stK; (simp_all; done))) ?_))
        exact A.hK [0, 0, 0, 0]
      have p5 := e5; try simp only [nrm] at p5
      refine A.sr (A.g [.p, .p] [16, 23] [(30, b_ (x4.zk == 3))] ?_)
      refine A.tn (A.cn (x4.zk == 3) (fun e7 => ?_) (fun e7 => ?_))
      · have p7 := e7; try simp only [nrm] at p7
        refine A.region (A.gpk [.p, .p, .ld 3] [30] [(32, p_ bt1), (34, (.agg #[i_ x4.zi, i_ x4.zp, b_ x4.zl, u_ x4.ya, u_ x4.yb, u_ x4.yc, u_ x4.va, u_ x4.vb, u_ x4.vc, u_ x4.wa, u_ x4.wb, u_ x4.wc, i_ x4.zn, i_ x4.zq]))] [b5] T0 trivial ?_)
        refine A.cons (A.cT (some 35) [p_ bt1, (.agg #[i_ x4.zi, i_ x4.zp, b_ x4.zl, u_ x4.ya, u_ x4.yb, u_ x4.yc, u_ x4.va, u_ x4.vb, u_ x4.vc, u_ x4.wa, u_ x4.wb, u_ x4.wc, i_ x4.zn, i_ x4.zq])] [0, 0] ((fun kv'8 => (i_ (setE kv (⟨x4.zi, x4.zp, x4.zl, x4.ya, x4.yb, x4.yc, x4.va, x4.vb, x4.vc, x4.wa, x4.wb, x4.wc, x4.zn, x4.zq⟩ : Cl))))) ((fun kv'8 => kv'8 = setK kv (⟨x4.zi, x4.zp, x4.zl, x4.ya, x4.yb, x4.yc, x4.va, x4.vb, x4.vc, x4.wa, x4.wb, x4.wc, x4.zn, x4.zq⟩ : Cl))) ((fun kv'8 => [blk bt1 [(.map (some mb2))] 77, mHI mb2 kv'8])) (fun ww ss hh => set_ok bt1 mb2 kv (⟨x4.zi, x4.zp, x4.zl, x4.ya, x4.yb, x4.yc, x4.va, x4.vb, x4.vc, x4.wa, x4.wb, x4.wc, x4.zn, x4.zq⟩ : Cl) (by omega) ww hh) ?_)
        rintro kv'8 hz8
        refine A.done ?_
        refine A.bn (A.tn (A.meet (kv'8) (by (unfold stK; (simp [*]; rfl))) ?_))
        exact A.hK [0, 0, 0, 0]
      have p7 := e7; try simp only [nrm] at p7
      refine A.skip (A.bn (A.tn (A.meet (kv) (by (unfold stK; (simp_all; done))) ?_)))
      exact A.hK [0, 0, 0, 0]
    rintro kv2 hq
    have hq : kv2 = stK kv x4 := hq
    by_cases hr : oneER R x4 = 0
    · refine A.region (A.gpk [.p, .ld 3] [7] [(36, vS ar R cr), (37, (.agg (encZc x4).toArray))] [b5] T0 trivial ?_)
      refine A.cons (A.cT (some 38) [vS ar R cr, (.agg (encZc x4).toArray)] [] ((fun zz => match zz with | (al'9, cl'10) => (.agg #[vS al'9 (oneLR R x4) cl'10, i_ 0]))) ((fun zz => match zz with | (al'9, cl'10) => True)) ((fun zz => match zz with | (al'9, cl'10) => [sCl al'9 (oneLR R x4) cl'10])) (fun ww ss hh => rone_ok ar R cr x4 (by omega) (by assumption) ww ((rd_sl (i := 2) rfl) ww ss) hh) ?_)
      rintro ⟨al'9, cl'10⟩ -
      refine A.g [.p, .p] [36, 37, 38] [(5, vS al'9 (oneLR R x4) cl'10)] ?_
      refine A.bn (tr (A.gk [.w ((k : Int) + 1), .p] [] [(11, i_ ((k : Int) + 1))] [] (fun κ => (IntKind.i64.wrap ((k : Int) + 1) = ((k : Int) + 1)) ∧ True) ⟨(wrap_i64 (e := (k : Int) + 1) (by constructor <;> omega)), trivial⟩ ?_))
      refine A.tn (A.next (k + 1, kv2, oneLR R x4, al'9, cl'10) ⟨(by omega), (by (rw [apK_at (by assumption), ← hv]; assumption)), (by ((rw [apR_snoc (by assumption), ← hw]; done))), (by (have h_ := kr_st hK hL (hz _ (List.mem_of_getElem? (by assumption))); rw [hq]; exact h_)), (by (rw [hq]; exact laid_st hL _))⟩ (by (show l.length - (k + 1) < l.length - k; omega)) ?_)
      exact A.hK [1, 1, 0]
    refine A.region (A.gpk [.p, .ld 3] [7] [(36, vS ar R cr), (37, (.agg (encZc x4).toArray))] [b5] T0 trivial ?_)
    refine A.cons (A.cT (some 38) [vS ar R cr, (.agg (encZc x4).toArray)] [] ((fun _ => (.agg #[vS ar R cr, i_ (oneER R x4)]))) ((fun _ => True)) ((fun _ => [])) (fun ww ss hh => rone_no ar R cr x4 (by omega) (by assumption) ww ((rd_sl (i := 2) rfl) ww ss) hh) ?_)
    rintro ⟨⟩ -
    refine A.g [.p, .p] [36, 37, 38] [] ?_
    refine A.bn (tr (A.gk [.w ((k : Int) + 1), .p] [] [(11, i_ ((k : Int) + 1))] [] (fun κ => (IntKind.i64.wrap ((k : Int) + 1) = ((k : Int) + 1)) ∧ True) ⟨(wrap_i64 (e := (k : Int) + 1) (by constructor <;> omega)), trivial⟩ ?_))
    refine A.tn (A.next (k + 1, kv2, R, ar, cr) ⟨(by omega), (by (rw [apK_at (by assumption), ← hv]; assumption)), (by ((rw [apR_snoc (by assumption), ← hw, oneLR_no hr]; done))), (by (have h_ := kr_st hK hL (hz _ (List.mem_of_getElem? (by assumption))); rw [hq]; (rw [oneLR_no hr] at h_; exact h_))), (by (rw [hq]; exact laid_st hL _))⟩ (by (show l.length - (k + 1) < l.length - k; omega)) ?_)
    exact A.hK [0, 0, 0]
  have p2 := of_decide_eq_false e2
  refine A.exit (A.te (A.te (A.bh (tsr (A.g [.p, .p, .p, .p] [4, 9, 10, 11, 5, 12] [(2, p_ bt1), (3, vS ar R cr)] ?_)))))
  refine A.tn (A.ret ?_)
  rw [show kv = (apK [] l) from by (rw [hv, List.take_of_length_le (by omega)])]
  refine A.setH [blk bt1 [(.map (some mb2))] 77, mHI mb2 (apK [] l), sCl ar (apR [] l) cr] (cc rfl (cc rfl (cc (slC (by (rw [hw, List.take_of_length_le (by omega)]) : R = (apR [] l))) rfl))) ?_
  refine A.pK [0, 0, 0] [p_ bt1, vS ar R cr] (bt1, mb2, ar, cr) ?_ ?_
  · show ((.tuple #[p_ bt1, vS ar R cr]) : Value) = (.tuple #[p_ bt1, vS ar (apR [] l) cr])
    (rw [hw, List.take_of_length_le (by omega)])
  trivial

theorem same19_spec (bt mb : Nat) (kv : List (Int × Cl)) (al : Option Addr) (l : List Cl) (cl : Nat) (hK : KR kv l) (hL : Laid kv) (w : World) (r0 : (blk bt [(.map (some mb))] 77).holds w) (r1 : (mHI mb kv).holds w) (r2 : arrAt w al (V.flat encCl l)) (hs : HS w (feet []) [] w) :
    Calls Tryz.prog 11 #[p_ bt, vS al l cl] w fun e w' => ∃ zz, e = .returned ((fun (zz : Unit) => (b_ true)) zz) ∧ (fun (zz : Unit) => True) zz ∧ Turn [] ((fun (zz : Unit) => []) zz) w w' := by
  have hid := kr_ids hK; have hkl := kr_len hK; have hll := hL.len; have hidl : (keysF kv (fun v_ => true)).length = l.length := (by rw [hid]; simp)
  refine calls_of (args := [p_ bt, vS al l cl]) (penv [p_ bt, vS al l cl]) (feet []) [] Tryz.func11 rfl rfl (look_penv _) hs ?_
  refine A.sr (A.g [.p] [] [] ?_)
  refine tsr (A.g [.p] [] [(5, e_)] ?_)
  refine A.tn (A.seq (A.sr (A.gp [.p] [] [(10, p_ bt)] ?_)))
  refine A.cons (A.cT (some 11) [p_ bt] [] ((fun zz => match zz with | (al'1, cl'2) => (vS al'1 (keysF kv (fun v_ => true)) cl'2))) ((fun zz => match zz with | (al'1, cl'2) => True)) ((fun zz => match zz with | (al'1, cl'2) => [sI al'1 (keysF kv (fun v_ => true)) cl'2])) (fun ww ss hh => ids_ok bt mb kv (by omega) ww (old_item ss r0) (old_item ss r1) hh) ?_)
  rintro ⟨al'1, cl'2⟩ -
  refine A.g [.p, .p] [10] [(11, vS al'1 (keysF kv (fun v_ => true)) cl'2), (12, i_ ((keysF kv (fun v_ => true)).length : Int)), (13, i_ 0)] ?_
  refine A.tn (A.block (A.ownNil 48 14 [sI al'1 (keysF kv (fun v_ => true)) cl'2, sCl none ([] : List Cl) 0] rfl ?_))
  refine A.setH [sI al'1 (keysF kv (fun v_ => true)) cl'2, sCl none (l.take 0) 0] (cc rfl (cc (slC (by rfl : ([] : List Cl) = (l.take 0))) rfl)) ?_
  refine A.sv 5 (vS none (l.take 0) 0) (congrArg (fun z_ : List Cl => some (Value.slice none z_.length 0)) (by rfl : ([] : List Cl) = (l.take 0))) ?_
  refine A.loop (fun (zz : Nat × (Option Addr) × Nat) => match zz with | (k, ao, co) => [(0, p_ bt), (1, vS al l cl), (11, vS al'1 (keysF kv (fun v_ => true)) cl'2), (12, i_ ((keysF kv (fun v_ => true)).length : Int)), (13, c_ k), (5, vS ao (l.take k) co)]) (fun (zz : Nat × (Option Addr) × Nat) => match zz with | (k, ao, co) => [sCl ao (l.take k) co, sI al'1 (keysF kv (fun v_ => true)) cl'2]) (fun (zz : Nat × (Option Addr) × Nat) => match zz with | (k, ao, co) => (k ≤ l.length)) (fun (zz : Nat × (Option Addr) × Nat) => match zz with | (k, ao, co) => (keysF kv (fun v_ => true)).length - k) (0, none, 0) (by omega) ?_ ?_
  · exact A.hK [1, 0]
  rintro ⟨k, ao, co⟩ hk
  have hk : k ≤ l.length := hk
  have htk : (l.take k).length ≤ 64 := (by simp; omega)
  refine A.sr (A.g [.p] [] [(14, b_ (decide ((k : Int) < ((keysF kv (fun v_ => true)).length : Int))))] ?_)
  refine A.tn (A.seq (A.cn (decide ((k : Int) < ((keysF kv (fun v_ => true)).length : Int))) (fun e2 => ?_) (fun e2 => ?_)))
  · have p2 := of_decide_eq_true e2
    refine A.skip (A.tn (A.seq (A.block (A.sr (A.gpk [.ix] [14] [(15, (.pointer (some ((at0 al'1).add (k * 1)))))] [] (fun κ => κ.ix al'1 ((keysF kv (fun v_ => true)).length) (k : Int) ∧ True) ⟨(ixOf encI_len (by decide) (rd_sl (i := 1) rfl) (by omega)), trivial⟩ ?_)))))
    obtain ⟨x5, hx5⟩ : ∃ x, ((keysF kv (fun v_ => true)))[k]? = some x := ⟨_, List.getElem?_eq_getElem (by omega)⟩
    refine A.gk [.rd [i_ x5], .p] [15] [(7, i_ x5)] [] (fun κ => κ.rd ((at0 al'1).add (k * 1)) [i_ x5] ∧ True) ⟨(reads_at0 (vs := [i_ x5]) encI_len (rd_sl (i := 1) rfl) hx5 (Nat.le_of_ble_eq_true rfl) rfl), trivial⟩ ?_
    refine A.tn (A.seq ?_)
    obtain ⟨y, hy, hyi, hyg, hye⟩ := ids_at hK (by assumption : (keysF kv (fun v_ => true))[k]? = some x5); have hyl := (List.getElem?_eq_some_iff.1 hy).1
    refine A.region (A.goA1 [.p, .p, .cq (.tuple #[(.agg (encCl (gcl kv x5)).toArray), i_ (gce kv x5)]), .p, .p, .p, .al, .st 2, .p] [0, 1, 11, 12, 13, 5, 8, 9] (fun b6 => [(0, p_ bt), (1, vS al l cl), (11, vS al'1 (keysF kv (fun v_ => true)) cl'2), (12, i_ ((keysF kv (fun v_ => true)).length : Int)), (13, c_ k), (5, vS ao (l.take k) co), (8, p_ b6), (9, i_ (gce kv x5))]) (fun b6 => [sCl ao (l.take k) co, sI al'1 (keysF kv (fun v_ => true)) cl'2, blk b6 (encCl (gcl kv x5)) 48]) (fun b6 => [b6]) (fun _ => (fun κ => κ.call 29 [p_ bt, i_ x5] (.tuple #[(.agg (encCl (gcl kv x5)).toArray), i_ (gce kv x5)]) ∧ True)) (fun _ => by kernel_rfl) (fun b6 => ⟨(fun ww ss => get_ok bt mb kv x5 ww (old_item ss r0) (old_item ss r1)), trivial⟩) ?_)
    intro b6
    refine A.tn (A.seq (A.sr (A.g [.p, .p] [9] [(24, b_ ((gce kv x5) != 0))] ?_)))
    refine A.tn (A.cn ((gce kv x5) != 0) (fun e3 => ?_) (fun e3 => ?_))
    · exact absurd e3 (by (rw [hye]; simp))
    have p3 := e3; try simp only [nrm] at p3
    refine A.skip (tr (A.gpk [.p, .ld 2] [8, 24] [(25, vS ao (l.take k) co), (26, (.agg (encCl (gcl kv x5)).toArray))] [b6] T0 trivial ?_))
    refine A.cons (A.buildSlice 27 (e := 48) (encCl (gcl kv x5)) (by kernel_rfl) rfl (fun _ => by kernel_rfl) (fun b7 => [sCl ao (l.take k) co, sI al'1 (keysF kv (fun v_ => true)) cl'2, blk b6 (encCl (gcl kv x5)) 48, blk b7 (encCl (gcl kv x5)) 48]) (fun _ => rfl) ?_)
    intro b7
    refine A.cons (A.appendC (enc := encCl) (xs := (l.take k)) ([gcl kv x5]) 0 28 (e := 48) (z := (.agg #[i_ 0, i_ 0, b_ false, u_ 0, u_ 0, u_ 0, u_ 0, u_ 0, u_ 0, u_ 0, u_ 0, u_ 0, i_ 0, i_ 0])) (sz := 14) (by_ := 112) (by kernel_rfl) rfl rfl rfl (by kernel_rfl) (by kernel_rfl) (by rfl) (by decide) encCl_len encCl_one rfl (rd_blk (i := 3) rfl) (by ((simp; omega))) (fun A8 c8 => [sCl A8 ((l.take k) ++ ([gcl kv x5])) c8, sI al'1 (keysF kv (fun v_ => true)) cl'2, blk b6 (encCl (gcl kv x5)) 48, blk b7 (encCl (gcl kv x5)) 48]) (fun _ _ => rfl) ?_)
    intro A8 c8
    refine A.goA [.p] [(0, p_ bt), (1, vS al l cl), (11, vS al'1 (keysF kv (fun v_ => true)) cl'2), (12, i_ ((keysF kv (fun v_ => true)).length : Int)), (13, c_ k), (5, vS A8 ((l.take k) ++ ([gcl kv x5])) c8)] [] T0 (by kernel_rfl) trivial ?_
    refine A.bn (tr (A.gk [.w ((k : Int) + 1), .p] [] [(13, i_ ((k : Int) + 1))] [] (fun κ => (IntKind.i64.wrap ((k : Int) + 1) = ((k : Int) + 1)) ∧ True) ⟨(wrap_i64 (e := (k : Int) + 1) (by constructor <;> omega)), trivial⟩ ?_))
    refine A.tn (A.setH [sCl A8 (l.take (k + 1)) c8, sI al'1 (keysF kv (fun v_ => true)) cl'2, blk b6 (encCl (gcl kv x5)) 48, blk b7 (encCl (gcl kv x5)) 48] (cc (slC (by (rw [take_snoc hy, ← hyg]) : (l.take k) ++ ([gcl kv x5]) = (l.take (k + 1)))) rfl) ?_)
    refine A.sv 5 (vS A8 (l.take (k + 1)) c8) (cgL (by (rw [take_snoc hy, ← hyg]))) ?_
    refine A.next (k + 1, A8, c8) (by omega) (by (show (keysF kv (fun v_ => true)).length - (k + 1) < (keysF kv (fun v_ => true)).length - k; omega)) ?_
    exact A.hK [0, 0]
  have p2 := of_decide_eq_false e2
  refine A.exit (A.te (A.te (A.bh (tsr (A.gk [.p, .p, .cq (b_ ((l.take k) == l)), .p] [0, 1, 11, 12, 13, 5, 14] [(4, b_ ((l.take k) == l))] [] (fun κ => κ.call 30 [vS ao (l.take k) co, vS al l cl] (b_ ((l.take k) == l)) ∧ True) ⟨(fun ww ss => sameR_spec ao (l.take k) co al l cl (by omega) ww ((rd_sl (i := 0) rfl) ww ss) ((rd_old r2 (by simp [feet])) ww ss)), trivial⟩ ?_)))))
  refine A.tn (A.ret (A.pK [] [b_ ((l.take k) == l)] () ?_ ?_))
  · show ((b_ ((l.take k) == l)) : Value) = (b_ true)
    refine congrArg Value.bool ?_; rw [List.take_of_length_le (by omega)]; simp
  trivial
end Go.Proofs.YtinnnoimmioaiaaGreat
