/- What the functions of this layer do, proved operation by operation, for all arguments, under the conditions that each theorem states. -/
import Derived.Test.YtinnnoimmioaiaaProg
import Derived.Test.YtinnnoimmioaiaaHierD
import Derived.Test.YtinnnoimmioaiaaHierC
import Derived.Test.YtinnnoimmioaiaaAdmit2
import Derived.Test.YtinnnoimmioaiaaL2
namespace Go.Proofs.Ytinnnoimmioaiaa
open Go V
set_option linter.unusedVariables false
set_option linter.unusedSimpArgs false
set_option maxHeartbeats 4000000
set_option maxRecDepth 100000
structure Zc where
  zk : Int
  zi : Int
  zp : Int
  zl : Bool
  ya : Int
  yb : Int
  yc : Int
  va : Int
  vb : Int
  vc : Int
  wa : Int
  wb : Int
  wc : Int
  zn : Int
  zq : Int
  deriving Inhabited, DecidableEq
def encZc (x : Zc) : List Value := [(i_ x.zk), (i_ x.zi), (i_ x.zp), (b_ x.zl), (u_ x.ya), (u_ x.yb), (u_ x.yc), (u_ x.va), (u_ x.vb), (u_ x.vc), (u_ x.wa), (u_ x.wb), (u_ x.wc), (i_ x.zn), (i_ x.zq)]
theorem encZc_len (x : Zc) : (encZc x).length = 15 := rfl
theorem encZc_one (x : Zc) : (encZc x).all Value.oneCell' = true := rfl
abbrev sZc (A : Option Addr) (xs : List Zc) (c : Nat) : V.Item := sl A xs.length c 111 15 (V.flat encZc xs)
def ZcOk (x : Zc) : Prop := ((-9223372036854775808) ≤ x.zk ∧ x.zk ≤ 9223372036854775807) ∧ ((-9223372036854775808) ≤ x.zi ∧ x.zi ≤ 9223372036854775807) ∧ ((-9223372036854775808) ≤ x.zp ∧ x.zp ≤ 9223372036854775807) ∧ True ∧ (0 ≤ x.ya ∧ x.ya ≤ 18446744073709551615) ∧ (0 ≤ x.yb ∧ x.yb ≤ 18446744073709551615) ∧ (0 ≤ x.yc ∧ x.yc ≤ 18446744073709551615) ∧ (0 ≤ x.va ∧ x.va ≤ 18446744073709551615) ∧ (0 ≤ x.vb ∧ x.vb ≤ 18446744073709551615) ∧ (0 ≤ x.vc ∧ x.vc ≤ 18446744073709551615) ∧ (0 ≤ x.wa ∧ x.wa ≤ 18446744073709551615) ∧ (0 ≤ x.wb ∧ x.wb ≤ 18446744073709551615) ∧ (0 ≤ x.wc ∧ x.wc ≤ 18446744073709551615) ∧ ((-9223372036854775808) ≤ x.zn ∧ x.zn ≤ 9223372036854775807) ∧ ((-9223372036854775808) ≤ x.zq ∧ x.zq ≤ 9223372036854775807)
def ksZc : List FK := [.int .i64, .int .i64, .int .i64, .bool, .int .u64, .int .u64, .int .u64, .int .u64, .int .u64, .int .u64, .int .u64, .int .u64, .int .u64, .int .i64, .int .i64]
theorem openZc (cs : List Value) (h : FitsL ksZc cs) : ∃ x, cs = encZc x ∧ ZcOk x := by
  unfold ksZc at h
  obtain ⟨v0, cs0, rfl, h0, g0⟩ := fitsL_cons h
  obtain ⟨a0, rfl, r0⟩ := fit_i64 h0
  obtain ⟨v1, cs1, rfl, h1, g1⟩ := fitsL_cons g0
  obtain ⟨a1, rfl, r1⟩ := fit_i64 h1
  obtain ⟨v2, cs2, rfl, h2, g2⟩ := fitsL_cons g1
  obtain ⟨a2, rfl, r2⟩ := fit_i64 h2
  obtain ⟨v3, cs3, rfl, h3, g3⟩ := fitsL_cons g2
  obtain ⟨a3, rfl⟩ := fit_bool h3
  obtain ⟨v4, cs4, rfl, h4, g4⟩ := fitsL_cons g3
  obtain ⟨a4, rfl, r4⟩ := fit_u64 h4
  obtain ⟨v5, cs5, rfl, h5, g5⟩ := fitsL_cons g4
  obtain ⟨a5, rfl, r5⟩ := fit_u64 h5
  obtain ⟨v6, cs6, rfl, h6, g6⟩ := fitsL_cons g5
  obtain ⟨a6, rfl, r6⟩ := fit_u64 h6
  obtain ⟨v7, cs7, rfl, h7, g7⟩ := fitsL_cons g6
  obtain ⟨a7, rfl, r7⟩ := fit_u64 h7
  obtain ⟨v8, cs8, rfl, h8, g8⟩ := fitsL_cons g7
  obtain ⟨a8, rfl, r8⟩ := fit_u64 h8
  obtain ⟨v9, cs9, rfl, h9, g9⟩ := fitsL_cons g8
  obtain ⟨a9, rfl, r9⟩ := fit_u64 h9
  obtain ⟨v10, cs10, rfl, h10, g10⟩ := fitsL_cons g9
  obtain ⟨a10, rfl, r10⟩ := fit_u64 h10
  obtain ⟨v11, cs11, rfl, h11, g11⟩ := fitsL_cons g10
  obtain ⟨a11, rfl, r11⟩ := fit_u64 h11
  obtain ⟨v12, cs12, rfl, h12, g12⟩ := fitsL_cons g11
  obtain ⟨a12, rfl, r12⟩ := fit_u64 h12
  obtain ⟨v13, cs13, rfl, h13, g13⟩ := fitsL_cons g12
  obtain ⟨a13, rfl, r13⟩ := fit_i64 h13
  obtain ⟨v14, cs14, rfl, h14, g14⟩ := fitsL_cons g13
  obtain ⟨a14, rfl, r14⟩ := fit_i64 h14
  obtain rfl := fitsL_nil g14
  exact ⟨⟨a0, a1, a2, a3, a4, a5, a6, a7, a8, a9, a10, a11, a12, a13, a14⟩, rfl, r0, r1, r2, trivial, r4, r5, r6, r7, r8, r9, r10, r11, r12, r13, r14⟩
def clZ (z : Zc) : Cl := ⟨z.zi, z.zp, z.zl, z.ya, z.yb, z.yc, z.va, z.vb, z.vc, z.wa, z.wb, z.wc, z.zn, z.zq⟩
/-- a change: its error, and the classes behind it -/
def stE (kv : List (Int × Cl)) (z : Zc) : Int := if z.zk = 1 then addE kv (clZ z) else if z.zk = 3 then setE kv (clZ z) else if z.zk = 2 then delE kv z.zi else 1
def stK (kv : List (Int × Cl)) (z : Zc) : List (Int × Cl) := if z.zk = 1 then addK kv (clZ z) else if z.zk = 3 then setK kv (clZ z) else if z.zk = 2 then delK kv z.zi else kv
/-- changes: the first error, where it is, and the classes behind all -/
def apE (kv : List (Int × Cl)) : List Zc → Int
  | [] => 0
  | z :: l => if stE kv z ≠ 0 then stE kv z else apE (stK kv z) l
def apI (kv : List (Int × Cl)) : List Zc → Nat
  | [] => 0
  | z :: l => if stE kv z ≠ 0 then 0 else apI (stK kv z) l + 1
def apK (kv : List (Int × Cl)) : List Zc → List (Int × Cl)
  | [] => kv
  | z :: l => apK (stK kv z) l
theorem apK_snoc (z : Zc) : ∀ (l : List Zc) (kv : List (Int × Cl)), apK kv (l ++ [z]) = stK (apK kv l) z
  | [], kv => rfl
  | y :: l, kv => apK_snoc z l (stK kv y)
theorem apE_snoc (z : Zc) : ∀ (l : List Zc) (kv : List (Int × Cl)), apE kv l = 0 → apE kv (l ++ [z]) = stE (apK kv l) z
  | [], kv, _ => by show (if stE kv z ≠ 0 then stE kv z else 0) = stE kv z; split <;> simp_all
  | y :: l, kv, h => by
    unfold apE at h; split at h
    · exact absurd h (by assumption)
    · rename_i h1; show (if stE kv y ≠ 0 then stE kv y else apE (stK kv y) (l ++ [z])) = _; rw [if_neg h1]; exact apE_snoc z l (stK kv y) h
theorem ap_at : ∀ {l : List Zc} {kv : List (Int × Cl)} {k : Nat} {z : Zc}, l[k]? = some z → apE kv (l.take k) = 0 → stE (apK kv (l.take k)) z ≠ 0 → apE kv l = stE (apK kv (l.take k)) z ∧ apI kv l = k
  | [], kv, k, z, h, _, _ => by simp at h
  | y :: l, kv, 0, z, h, h0, h1 => by
    simp at h; subst h; simp only [List.take_zero, apK] at h1 ⊢; unfold apE apI; rw [if_pos h1, if_pos h1]; exact ⟨rfl, rfl⟩
  | y :: l, kv, k + 1, z, h, h0, h1 => by
    simp only [List.take_succ_cons, apK, apE] at h0 h1 ⊢
    have h2 : ¬ stE kv y ≠ 0 := fun h2 => by rw [if_pos h2] at h0; exact h2 h0
    rw [if_neg h2] at h0
    have := ap_at (l := l) (kv := stK kv y) (by simpa using h) h0 h1
    unfold apI; rw [if_neg h2, if_neg h2, this.1, this.2]; exact ⟨rfl, rfl⟩
theorem ap_step {l : List Zc} {kv : List (Int × Cl)} {k : Nat} {z : Zc} (h : l[k]? = some z) (h0 : apE kv (l.take k) = 0) (h1 : stE (apK kv (l.take k)) z = 0) : apE kv (l.take (k + 1)) = 0 ∧ apK kv (l.take (k + 1)) = stK (apK kv (l.take k)) z := by
  have e : l.take (k + 1) = l.take k ++ [z] := by rw [List.take_add_one, h]; rfl
  rw [e, apE_snoc _ _ _ h0, apK_snoc]; exact ⟨h1, rfl⟩
def trE (kv : List (Int × Cl)) (t : Int) (l : List Zc) : Int := if t < 1 ∨ t > 65536 then 1 else if 32 < l.length then 2 else if apE kv l ≠ 0 then apE kv l else fitE t (realsL (apK kv l))
def trI (kv : List (Int × Cl)) (t : Int) (l : List Zc) : Int := if t < 1 ∨ t > 65536 then 0 else if 32 < l.length then 0 else if apE kv l ≠ 0 then (apI kv l : Int) else 0
/-- classes, all of them as Go has them -/
def AOk (kv : List (Int × Cl)) : Prop := ∃ R, KR kv R
theorem laid_st {kv : List (Int × Cl)} (h : Laid kv) (z : Zc) : Laid (stK kv z) := by
  unfold stK; split
  · exact laid_addK h _
  · split
    · exact laid_setK h _
    · split
      · exact laid_delK h _
      · exact h
theorem clZ_ok {z : Zc} (h : ZcOk z) : ClOk (clZ z) := h.2
theorem aok_st {kv : List (Int × Cl)} (h : AOk kv) (hL : Laid kv) {z : Zc} (hz : ZcOk z) : AOk (stK kv z) := by
  obtain ⟨R, hR⟩ := h
  unfold stK; split
  · exact ⟨_, kr_addK hR hL (clZ_ok hz)⟩
  · split
    · exact ⟨_, kr_setK hR hL (clZ_ok hz)⟩
    · split
      · exact ⟨_, kr_delK hR _⟩
      · exact ⟨R, hR⟩
theorem laid_ap : ∀ {l : List Zc} {kv : List (Int × Cl)}, Laid kv → Laid (apK kv l)
  | [], kv, h => h
  | z :: l, kv, h => laid_ap (l := l) (laid_st h z)
theorem aok_ap : ∀ {l : List Zc} {kv : List (Int × Cl)}, AOk kv → Laid kv → (∀ z ∈ l, ZcOk z) → AOk (apK kv l)
  | [], kv, h, _, _ => h
  | z :: l, kv, h, hL, hz => aok_ap (l := l) (aok_st h hL (hz z (by simp))) (laid_st hL z) (fun y hy => hz y (by simp [hy]))
theorem reals_okV {kv : List (Int × Cl)} (h : AOk kv) : ∀ v ∈ realsL kv, CvOk v := by
  obtain ⟨R, hR⟩ := h
  intro v hv
  unfold realsL at hv
  obtain ⟨i, _, rfl⟩ := List.mem_map.1 hv
  have := kr_gok hR i
  unfold gcl at this
  unfold ClOk at this; unfold CvOk rtOf; dsimp only; omega
theorem realsL_len (kv : List (Int × Cl)) : (realsL kv).length ≤ kv.length := by unfold realsL; rw [List.length_map]; exact keysF_len _ _
theorem tr_1 {kv : List (Int × Cl)} {t : Int} {l : List Zc} (h : t < 1 ∨ t > 65536) : trE kv t l = 1 ∧ trI kv t l = 0 := by unfold trE trI; rw [if_pos h, if_pos h]; exact ⟨rfl, rfl⟩
theorem tr_2 {kv : List (Int × Cl)} {t : Int} {l : List Zc} (h : ¬(t < 1 ∨ t > 65536)) (h2 : 32 < l.length) : trE kv t l = 2 ∧ trI kv t l = 0 := by unfold trE trI; rw [if_neg h, if_neg h, if_pos h2, if_pos h2]; exact ⟨rfl, rfl⟩
theorem tr_3 {kv : List (Int × Cl)} {t : Int} {l : List Zc} (h : ¬(t < 1 ∨ t > 65536)) (h2 : ¬ 32 < l.length) {e : Int} {k : Nat} (h3 : apE kv l = e ∧ apI kv l = k) (he : e ≠ 0) : trE kv t l = e ∧ trI kv t l = k := by
  unfold trE trI; rw [if_neg h, if_neg h, if_neg h2, if_neg h2, h3.1, h3.2, if_pos he, if_pos he]; exact ⟨rfl, rfl⟩
theorem tr_4 {kv : List (Int × Cl)} {t : Int} {l : List Zc} (h : ¬(t < 1 ∨ t > 65536)) (h2 : ¬ 32 < l.length) (h3 : apE kv l = 0) : trE kv t l = fitE t (realsL (apK kv l)) ∧ trI kv t l = 0 := by
  unfold trE trI; rw [if_neg h, if_neg h, if_neg h2, if_neg h2, h3]; simp

theorem one_spec (bt mb : Nat) (kv : List (Int × Cl)) (z : Zc) (hL : Laid kv) (w : World) (hs : HS w (feet [blk bt [(.map (some mb))] 124, mHI mb kv]) [blk bt [(.map (some mb))] 124, mHI mb kv] w) :
    Calls Try.prog 76 #[p_ bt, (.agg (encZc z).toArray)] w fun e w' => ∃ zz, e = .returned ((fun (kv' : (List (Int × Cl))) => (i_ (stE kv z))) zz) ∧ (fun (kv' : (List (Int × Cl))) => kv' = stK kv z) zz ∧ Turn [blk bt [(.map (some mb))] 124, mHI mb kv] ((fun (kv' : (List (Int × Cl))) => [blk bt [(.map (some mb))] 124, mHI mb kv']) zz) w w' := by
  refine calls_of (args := [p_ bt, (.agg (encZc z).toArray)]) (penv [p_ bt, (.agg (encZc z).toArray)]) (feet [blk bt [(.map (some mb))] 124, mHI mb kv]) [blk bt [(.map (some mb))] 124, mHI mb kv] Try.func76 rfl rfl (look_penv _) hs ?_
  refine A.sr (A.n2 [.al, .al, .p] [0, 1] (fun b1 b2 => [(2, p_ b1), (3, p_ b2)]) (fun b1 b2 => [blk b1 [p_ bt] 54, blk b2 (encZc z) 111]) ?_)
  intro b1 b2
  refine tsr (A.g [.p] [] [] ?_)
  refine A.tn (A.seq (A.sr (A.gk [.p, .ld 3] [] [(7, i_ z.zk)] [b2] T0 trivial ?_)))
  refine A.tn (A.block (A.sr (A.g [.p, .p] [] [(8, b_ (z.zk == 1))] ?_)))
  refine A.tn (A.cn (z.zk == 1) (fun e1 => ?_) (fun e1 => ?_))
  · have p1 := e1; try simp only [nrm] at p1
    refine A.region (A.gk [.ld 2, .p, .p] [2, 7, 8] [(5, (.func (.func 63) #[p_ bt] #[]))] [b1] T0 trivial ?_)
    refine A.bn (tsr (A.gpk [.p, .p, .ld 3] [3, 5] [(19, (.func (.func 63) #[p_ bt] #[])), (21, (.agg #[i_ z.zi, i_ z.zp, b_ z.zl, u_ z.ya, u_ z.yb, u_ z.yc, u_ z.va, u_ z.vb, u_ z.vc, u_ z.wa, u_ z.wb, u_ z.wc, i_ z.zn, i_ z.zq]))] [b2] T0 trivial ?_))
    refine A.cons (A.cT (some 22) [p_ bt, (.agg #[i_ z.zi, i_ z.zp, b_ z.zl, u_ z.ya, u_ z.yb, u_ z.yc, u_ z.va, u_ z.vb, u_ z.vc, u_ z.wa, u_ z.wb, u_ z.wc, i_ z.zn, i_ z.zq])] [0, 0] ((fun kv'3 => (i_ (addE kv (⟨z.zi, z.zp, z.zl, z.ya, z.yb, z.yc, z.va, z.vb, z.vc, z.wa, z.wb, z.wc, z.zn, z.zq⟩ : Cl))))) ((fun kv'3 => kv'3 = addK kv (⟨z.zi, z.zp, z.zl, z.ya, z.yb, z.yc, z.va, z.vb, z.vc, z.wa, z.wb, z.wc, z.zn, z.zq⟩ : Cl))) ((fun kv'3 => [blk bt [(.map (some mb))] 124, mHI mb kv'3])) (fun ww ss hh => add_ok bt mb kv (⟨z.zi, z.zp, z.zl, z.ya, z.yb, z.yc, z.va, z.vb, z.vc, z.wa, z.wb, z.wc, z.zn, z.zq⟩ : Cl) (by exact hL.dep) (by exact hL.len) ww hh) ?_)
    rintro kv'3 hz2
    refine A.g [.p] [19, 21, 22] [(4, i_ (addE kv (⟨z.zi, z.zp, z.zl, z.ya, z.yb, z.yc, z.va, z.vb, z.vc, z.wa, z.wb, z.wc, z.zn, z.zq⟩ : Cl)))] ?_
    refine A.tn (A.ret (A.pK [0, 0] [i_ (addE kv (⟨z.zi, z.zp, z.zl, z.ya, z.yb, z.yc, z.va, z.vb, z.vc, z.wa, z.wb, z.wc, z.zn, z.zq⟩ : Cl))] (kv'3) ?_ ?_))
    · show ((i_ (addE kv (⟨z.zi, z.zp, z.zl, z.ya, z.yb, z.yc, z.va, z.vb, z.vc, z.wa, z.wb, z.wc, z.zn, z.zq⟩ : Cl))) : Value) = (i_ (stE kv z))
      refine congrArg (Value.int .i64) ?_; unfold stE; (simp [*]; rfl)
    show kv'3 = stK kv z
    unfold stK; (simp [*]; rfl)
  have p1 := e1; try simp only [nrm] at p1
  refine A.sr (A.g [.p, .p] [8] [(12, b_ (z.zk == 3))] ?_)
  refine A.tn (A.cn (z.zk == 3) (fun e3 => ?_) (fun e3 => ?_))
  · have p3 := e3; try simp only [nrm] at p3
    refine A.region (A.gk [.ld 2, .p, .p] [2, 7, 12] [(5, (.func (.func 64) #[p_ bt] #[]))] [b1] T0 trivial ?_)
    refine A.bn (tsr (A.gpk [.p, .p, .ld 3] [3, 5] [(19, (.func (.func 64) #[p_ bt] #[])), (21, (.agg #[i_ z.zi, i_ z.zp, b_ z.zl, u_ z.ya, u_ z.yb, u_ z.yc, u_ z.va, u_ z.vb, u_ z.vc, u_ z.wa, u_ z.wb, u_ z.wc, i_ z.zn, i_ z.zq]))] [b2] T0 trivial ?_))
    refine A.cons (A.cT (some 22) [p_ bt, (.agg #[i_ z.zi, i_ z.zp, b_ z.zl, u_ z.ya, u_ z.yb, u_ z.yc, u_ z.va, u_ z.vb, u_ z.vc, u_ z.wa, u_ z.wb, u_ z.wc, i_ z.zn, i_ z.zq])] [0, 0] ((fun kv'4 => (i_ (setE kv (⟨z.zi, z.zp, z.zl, z.ya, z.yb, z.yc, z.va, z.vb, z.vc, z.wa, z.wb, z.wc, z.zn, z.zq⟩ : Cl))))) ((fun kv'4 => kv'4 = setK kv (⟨z.zi, z.zp, z.zl, z.ya, z.yb, z.yc, z.va, z.vb, z.vc, z.wa, z.wb, z.wc, z.zn, z.zq⟩ : Cl))) ((fun kv'4 => [blk bt [(.map (some mb))] 124, mHI mb kv'4])) (fun ww ss hh => set_ok bt mb kv (⟨z.zi, z.zp, z.zl, z.ya, z.yb, z.yc, z.va, z.vb, z.vc, z.wa, z.wb, z.wc, z.zn, z.zq⟩ : Cl) (by (have h_ := hL.len; omega)) ww hh) ?_)
    rintro kv'4 hz4
    refine A.g [.p] [19, 21, 22] [(4, i_ (setE kv (⟨z.zi, z.zp, z.zl, z.ya, z.yb, z.yc, z.va, z.vb, z.vc, z.wa, z.wb, z.wc, z.zn, z.zq⟩ : Cl)))] ?_
    refine A.tn (A.ret (A.pK [0, 0] [i_ (setE kv (⟨z.zi, z.zp, z.zl, z.ya, z.yb, z.yc, z.va, z.vb, z.vc, z.wa, z.wb, z.wc, z.zn, z.zq⟩ : Cl))] (kv'4) ?_ ?_))
    · show ((i_ (setE kv (⟨z.zi, z.zp, z.zl, z.ya, z.yb, z.yc, z.va, z.vb, z.vc, z.wa, z.wb, z.wc, z.zn, z.zq⟩ : Cl))) : Value) = (i_ (stE kv z))
      refine congrArg (Value.int .i64) ?_; unfold stE; (simp [*]; rfl)
    show kv'4 = stK kv z
    unfold stK; (simp [*]; rfl)
  have p3 := e3; try simp only [nrm] at p3
  refine A.sr (A.g [.p, .p] [7, 12] [(16, b_ (z.zk == 2))] ?_)
  refine A.tn (A.cn (z.zk == 2) (fun e5 => ?_) (fun e5 => ?_))
  · have p5 := e5; try simp only [nrm] at p5
    refine A.region (A.g [.p, .p] [2, 16] [(5, (.func (.func 120) #[] #[p_ b1]))] ?_)
    refine A.bn (tsr (A.gpk [.p, .p, .ld 3] [3, 5] [(19, (.func (.func 120) #[] #[p_ b1])), (21, (.agg #[i_ z.zi, i_ z.zp, b_ z.zl, u_ z.ya, u_ z.yb, u_ z.yc, u_ z.va, u_ z.vb, u_ z.vc, u_ z.wa, u_ z.wb, u_ z.wc, i_ z.zn, i_ z.zq]))] [b2] T0 trivial ?_))
    refine A.cons (A.inlX (some 22) [(.agg #[i_ z.zi, i_ z.zp, b_ z.zl, u_ z.ya, u_ z.yb, u_ z.yc, u_ z.va, u_ z.vb, u_ z.vc, u_ z.wa, u_ z.wb, u_ z.wc, i_ z.zn, i_ z.zq]), p_ b1] [(0, (.agg #[i_ z.zi, i_ z.zp, b_ z.zl, u_ z.ya, u_ z.yb, u_ z.yc, u_ z.va, u_ z.vb, u_ z.vc, u_ z.wa, u_ z.wb, u_ z.wc, i_ z.zn, i_ z.zq])), (1, p_ b1)] (by kernel_rfl) rfl Try.func120 rfl rfl ?_)
    refine A.sr (A.n1 [.al, .p] [0] (fun b5 => [(2, p_ b5)]) (fun b5 => blk b5 [i_ z.zi, i_ z.zp, b_ z.zl, u_ z.ya, u_ z.yb, u_ z.yc, u_ z.va, u_ z.vb, u_ z.vc, u_ z.wa, u_ z.wb, u_ z.wc, i_ z.zn, i_ z.zq] 98) ?_)
    intro b5
    refine tsr (A.gpk [.ld 2, .p, .ld 4] [1, 2] [(4, p_ bt), (6, i_ z.zi)] [b1, b5] T0 trivial ?_)
    refine A.cons (A.cT (some 7) [p_ bt, i_ z.zi] [0, 0] ((fun kv'6 => (i_ (delE kv z.zi)))) ((fun kv'6 => kv'6 = delK kv z.zi)) ((fun kv'6 => [blk bt [(.map (some mb))] 124, mHI mb kv'6])) (fun ww ss hh => del_ok bt mb kv z.zi (by (have h_ := hL.len; omega)) ww hh) ?_)
    rintro kv'6 hz6
    refine A.g [.p] [4, 6, 7] [(3, i_ (delE kv z.zi))] ?_
    refine A.tn (A.ret (A.post [i_ (delE kv z.zi)] (fun aa ww rr ss => ⟨rv_tmp rr rfl, trivial⟩) (A.back (by kernel_rfl) ?_)))
    refine A.items [blk bt [(.map (some mb))] 124, mHI mb kv'6, blk b1 [p_ bt] 54] (.cons_cons _ (.cons_cons _ (.cons_cons _ (.cons _ (.cons _ (List.Sublist.slnil)))))) ?_
    refine A.goA [.p] [(4, i_ (delE kv z.zi))] [] T0 (by kernel_rfl) trivial ?_
    refine A.tn (A.ret (A.pK [0, 0] [i_ (delE kv z.zi)] (kv'6) ?_ ?_))
    · show ((i_ (delE kv z.zi)) : Value) = (i_ (stE kv z))
      refine congrArg (Value.int .i64) ?_; unfold stE; (simp [*]; done)
    show kv'6 = stK kv z
    unfold stK; (simp [*]; done)
  have p5 := e5; try simp only [nrm] at p5
  refine A.sr (A.g [.p] [2, 3, 16] [(4, i_ 1)] ?_)
  refine A.tn (A.ret (A.br (A.tr (A.pK [0, 0] [i_ 1] (kv) ?_ ?_))))
  · show ((i_ 1) : Value) = (i_ (stE kv z))
    refine congrArg (Value.int .i64) ?_; unfold stE; (simp [*]; done)
  show kv = stK kv z
  unfold stK; (simp [*]; done)

theorem app_nil (t : Int) (al : Option Addr) (l : List Zc) (cl : Nat) (w : World) :
    Calls Try.prog 36 #[n_, i_ t, vS al l cl] w fun e w' => e = .returned (.tuple #[n_, i_ 0, i_ 7]) ∧ Fr [] w w' := by
  refine calls_of (args := [n_, i_ t, vS al l cl]) (penv [n_, i_ t, vS al l cl]) [] [] Try.func36 rfl rfl (look_penv _) (HS.nil w) ?_
  refine A.sr (A.g [.p, .p, .p] [] [] ?_)
  refine A.tn (A.seq (A.block (A.sr (A.g [.p, .p, .p] [] [(14, b_ true)] ?_))))
  refine A.tn (A.ct (A.sr (A.g [.p, .p, .p] [0, 1, 2, 14] [(6, n_), (7, i_ 0), (8, i_ 7)] ?_)))
  refine A.tn (A.ret (A.br (A.tr (A.pQ [n_, i_ 0, i_ 7] ?_))))
  rfl

theorem app_err (bt mb : Nat) (kv : List (Int × Cl)) (t : Int) (al : Option Addr) (l : List Zc) (cl : Nat) (hL : Laid kv) (hK : AOk kv) (hz : ∀ z ∈ l, ZcOk z) (hok : trE kv t l ≠ 0) (w : World) (r0 : (blk bt [(.map (some mb))] 124).holds w) (r1 : (mHI mb kv).holds w) (r2 : arrAt w al (V.flat encZc l)) :
    Calls Try.prog 36 #[p_ bt, i_ t, vS al l cl] w fun e w' => e = .returned (.tuple #[n_, i_ (trI kv t l), i_ (trE kv t l)]) ∧ Fr [] w w' := by
  refine calls_of (args := [p_ bt, i_ t, vS al l cl]) (penv [p_ bt, i_ t, vS al l cl]) [] [] Try.func36 rfl rfl (look_penv _) (HS.nil w) ?_
  refine A.sr (A.g [.p, .p, .p] [] [] ?_)
  refine A.tn (A.seq (A.block (A.sr (A.g [.p, .p, .p] [] [(14, b_ false)] ?_))))
  refine A.tn (A.cf (A.sr (A.g [.p, .p, .p, .o, .p, .p, .cl, .p] [14] [(17, b_ ((decide (t < 1)) || (decide (t > 65536))))] ?_)))
  refine A.tn (A.cn ((decide (t < 1)) || (decide (t > 65536))) (fun e1 => ?_) (fun e1 => ?_))
  · have p1 := e1; try simp only [nrm] at p1
    refine A.sr (A.g [.p, .p, .p] [0, 1, 2, 17] [(6, n_), (7, i_ 0), (8, i_ 1)] ?_)
    refine A.tn (A.ret (A.br (A.tr (A.pQ [n_, i_ 0, i_ 1] ?_))))
    show ((.tuple #[n_, i_ 0, i_ 1]) : Value) = (.tuple #[n_, i_ (trI kv t l), i_ (trE kv t l)])
    rw [(tr_1 (kv := kv) (l := l) (by omega)).1, (tr_1 (kv := kv) (l := l) (by omega)).2]
  have p1 := e1; try simp only [nrm] at p1
  refine A.sr (A.g [.p, .p, .p, .p] [17] [(24, b_ (decide ((l.length : Int) > 32)))] ?_)
  refine A.tn (A.cn (decide ((l.length : Int) > 32)) (fun e2 => ?_) (fun e2 => ?_))
  · have p2 := of_decide_eq_true e2
    refine A.sr (A.g [.p, .p, .p] [0, 1, 2, 24] [(6, n_), (7, i_ 0), (8, i_ 2)] ?_)
    refine A.tn (A.ret (A.br (A.tr (A.pQ [n_, i_ 0, i_ 2] ?_))))
    show ((.tuple #[n_, i_ 0, i_ 2]) : Value) = (.tuple #[n_, i_ (trI kv t l), i_ (trE kv t l)])
    rw [(tr_2 (kv := kv) (by omega) (by omega)).1, (tr_2 (kv := kv) (by omega) (by omega)).2]
  have p2 := of_decide_eq_false e2
  refine A.skip (A.bn (tsr (A.gp [.p] [0, 24] [(28, p_ bt)] ?_)))
  refine A.cons (A.cT (some 29) [p_ bt] [] ((fun zz => match zz with | (bc1, mc2) => (p_ bc1))) ((fun zz => match zz with | (bc1, mc2) => True)) ((fun zz => match zz with | (bc1, mc2) => [blk bc1 [(.map (some mc2))] 124, mHI mc2 kv])) (fun ww ss hh => copy_ok bt mb kv ww (old_item ss r0) (old_item ss r1) hh) ?_)
  rintro ⟨bc1, mc2⟩ -
  refine A.g [.p] [28, 29] [(9, p_ bc1)] ?_
  refine A.tn (A.seq (A.sr (A.g [.p, .p, .p] [2] [(30, vS al l cl), (31, c_ l.length), (32, i_ 0)] ?_)))
  refine A.tn (A.block (A.loop (fun (zz : Nat × (List (Int × Cl))) => match zz with | (k, kw) => [(1, i_ t), (9, p_ bc1), (30, vS al l cl), (31, c_ l.length), (32, c_ k)]) (fun (zz : Nat × (List (Int × Cl))) => match zz with | (k, kw) => [blk bc1 [(.map (some mc2))] 124, mHI mc2 kw]) (fun (zz : Nat × (List (Int × Cl))) => match zz with | (k, kw) => (k ≤ l.length) ∧ (kw = apK kv (l.take k)) ∧ (apE kv (l.take k) = 0) ∧ (Laid kw) ∧ (AOk kw)) (fun (zz : Nat × (List (Int × Cl))) => match zz with | (k, kw) => l.length - k) (0, kv) ⟨(by omega), (by rfl), (by rfl), (by assumption), (by assumption)⟩ ?_ ?_))
  · exact A.hK [0, 0]
  rintro ⟨k, kw⟩ ⟨hk, hw, h0, hLw, hKw⟩
  refine A.sr (A.g [.p] [] [(33, b_ (decide ((k : Int) < (l.length : Int))))] ?_)
  refine A.tn (A.seq (A.cn (decide ((k : Int) < (l.length : Int))) (fun e4 => ?_) (fun e4 => ?_)))
  · have p4 := of_decide_eq_true e4
    refine A.skip (A.tn (A.seq (A.block (A.sr (A.gpk [.p, .ix] [33] [(34, c_ k), (35, (.pointer (some ((at0 al).add (k * 15)))))] [] (fun κ => κ.ix al l.length (k : Int) ∧ True) ⟨(ixOf encZc_len (by decide) (rd_old r2 (by simp [feet])) (by omega)), trivial⟩ ?_)))))
    obtain ⟨x3, hx3⟩ : ∃ x, (l)[k]? = some x := ⟨_, List.getElem?_eq_getElem (by omega)⟩
    refine A.goA1 [.rd (encZc x3), .al, .p, .st 2] [1, 9, 30, 31, 32, 11, 10] (fun b4 => [(1, i_ t), (9, p_ bc1), (30, vS al l cl), (31, c_ l.length), (32, c_ k), (11, p_ b4), (10, c_ k)]) (fun b4 => [blk bc1 [(.map (some mc2))] 124, mHI mc2 kw, blk b4 (encZc x3) 111]) (fun b4 => [b4]) (fun _ => (fun κ => κ.rd ((at0 al).add (k * 15)) (encZc x3) ∧ True)) (fun _ => by kernel_rfl) (fun b4 => ⟨(reads_at0 (vs := (encZc x3)) encZc_len (rd_old r2 (by simp [feet])) hx3 (Nat.le_of_ble_eq_true rfl) rfl), trivial⟩) ?_
    intro b4
    refine tsr (A.gpk [.p, .ld 2] [11] [(37, p_ bc1), (38, (.agg (encZc x3).toArray))] [b4] T0 trivial ?_)
    refine A.cons (A.cT (some 39) [p_ bc1, (.agg (encZc x3).toArray)] [0, 0] ((fun kv'5 => (i_ (stE kw x3)))) ((fun kv'5 => kv'5 = stK kw x3)) ((fun kv'5 => [blk bc1 [(.map (some mc2))] 124, mHI mc2 kv'5])) (fun ww ss hh => one_spec bc1 mc2 kw x3 (by assumption) ww hh) ?_)
    rintro kv'5 hz5
    refine A.g [.p] [37, 38, 39] [(12, i_ (stE kw x3))] ?_
    refine tsr (A.g [.p, .p] [] [(41, b_ ((stE kw x3) != 0))] ?_)
    refine A.tn (A.cn ((stE kw x3) != 0) (fun e6 => ?_) (fun e6 => ?_))
    · have p6 := e6; try simp only [nrm] at p6
      refine A.sr (A.g [.p, .p, .p, .p, .p] [1, 9, 30, 31, 32, 10, 12, 41] [(6, n_), (7, c_ k), (8, i_ (stE kw x3))] ?_)
      refine A.tn (A.ret (A.br (A.tr (A.tr (A.br (A.tr (A.pQ [n_, c_ k, i_ (stE kw x3)] ?_)))))))
      show ((.tuple #[n_, c_ k, i_ (stE kw x3)]) : Value) = (.tuple #[n_, i_ (trI kv t l), i_ (trE kv t l)])
      (subst hw; obtain ⟨g1_, g2_⟩ := tr_3 (t := t) (by omega) (by omega) (ap_at (by assumption) h0 (by assumption)) (by assumption); rw [g1_, g2_])
    have p6 := e6; try simp only [nrm] at p6
    refine A.skip (A.bn (tr (A.gk [.w ((k : Int) + 1), .p] [10, 12, 41] [(32, i_ ((k : Int) + 1))] [] (fun κ => (IntKind.i64.wrap ((k : Int) + 1) = ((k : Int) + 1)) ∧ True) ⟨(wrap_i64 (e := (k : Int) + 1) (by constructor <;> omega)), trivial⟩ ?_)))
    refine A.tn (A.next (k + 1, kv'5) ⟨(by omega), (by (subst_vars; exact (ap_step (by assumption) h0 (by assumption)).2.symm)), (by (subst hw; exact (ap_step (by assumption) h0 (by assumption)).1)), (by (subst_vars; exact laid_st hLw _)), (by (subst_vars; exact aok_st hKw hLw (hz _ (List.mem_of_getElem? (by assumption)))))⟩ (by (show l.length - (k + 1) < l.length - k; omega)) ?_)
    exact A.hK [0, 0]
  have p4 := of_decide_eq_false e4
  refine A.exit (A.te (A.te (A.bh (A.tn (A.seq (A.sr (A.gp [.p, .p] [1, 30, 31, 32, 33] [(45, i_ t), (46, p_ bc1)] ?_)))))))
  refine A.cons (A.cT (some 47) [p_ bc1] [] ((fun zz => match zz with | (al'6, cl'7) => (vS al'6 (realsL kw) cl'7))) ((fun zz => match zz with | (al'6, cl'7) => True)) ((fun zz => match zz with | (al'6, cl'7) => [sCv al'6 (realsL kw) cl'7])) (fun ww ss hh => reals_ok bc1 mc2 kw (by (have h_ := hLw.len; omega)) ww (ss.mem (i := 0) rfl) (ss.mem (i := 1) rfl) hh) ?_)
  rintro ⟨al'6, cl'7⟩ -
  refine A.gk [.cq (i_ (fitE t (realsL kw))), .p] [45, 46, 47] [(13, i_ (fitE t (realsL kw)))] [] (fun κ => κ.call 14 [i_ t, vS al'6 (realsL kw) cl'7] (i_ (fitE t (realsL kw))) ∧ True) ⟨(fun ww ss => fits_spec t al'6 (realsL kw) cl'7 (by (exact Nat.le_trans (realsL_len _) (by have h_ := hLw.len; omega))) (by exact reals_okV hKw) ww ((rd_sl (i := 0) rfl) ww ss)), trivial⟩ ?_
  refine tsr (A.g [.p, .p] [] [(50, b_ ((fitE t (realsL kw)) != 0))] ?_)
  refine A.tn (A.cn ((fitE t (realsL kw)) != 0) (fun e8 => ?_) (fun e8 => ?_))
  · have p8 := e8; try simp only [nrm] at p8
    refine A.sr (A.g [.p, .p, .p, .p] [9, 13, 50] [(6, n_), (7, i_ 0), (8, i_ (fitE t (realsL kw)))] ?_)
    refine A.tn (A.ret (A.tr (A.pQ [n_, i_ 0, i_ (fitE t (realsL kw))] ?_)))
    show ((.tuple #[n_, i_ 0, i_ (fitE t (realsL kw))]) : Value) = (.tuple #[n_, i_ (trI kv t l), i_ (trE kv t l)])
    have hk2_ : l.take k = l := List.take_of_length_le (by omega)
    rw [hk2_] at hw h0
    obtain ⟨g1_, g2_⟩ := tr_4 (t := t) (by omega) (by omega) h0
    (subst hw; rw [g1_, g2_])
  have p8 := e8; try simp only [nrm] at p8
  refine A.skip (tsr (A.g [.p, .p, .p, .p] [9, 13, 50] [(6, p_ bc1), (7, i_ 0), (8, i_ 0)] ?_))
  refine A.tn (A.ret (A.pQ [p_ bc1, i_ 0, i_ 0] ?_))
  show ((.tuple #[p_ bc1, i_ 0, i_ 0]) : Value) = (.tuple #[n_, i_ (trI kv t l), i_ (trE kv t l)])
  have hk2_ : l.take k = l := List.take_of_length_le (by omega)
  rw [hk2_] at hw h0
  obtain ⟨g1_, g2_⟩ := tr_4 (t := t) (by omega) (by omega) h0
  (subst hw; exact absurd (g1_.trans (by assumption)) hok)

theorem app_ok (bt mb : Nat) (kv : List (Int × Cl)) (t : Int) (al : Option Addr) (l : List Zc) (cl : Nat) (hL : Laid kv) (hK : AOk kv) (hz : ∀ z ∈ l, ZcOk z) (hok : trE kv t l = 0) (w : World) (r0 : (blk bt [(.map (some mb))] 124).holds w) (r1 : (mHI mb kv).holds w) (r2 : arrAt w al (V.flat encZc l)) (hs : HS w (feet []) [] w) :
    Calls Try.prog 36 #[p_ bt, i_ t, vS al l cl] w fun e w' => ∃ zz, e = .returned ((fun (zz : Nat × Nat) => match zz with | (bc, mc) => (.tuple #[p_ bc, i_ 0, i_ 0])) zz) ∧ (fun (zz : Nat × Nat) => match zz with | (bc, mc) => True) zz ∧ Turn [] ((fun (zz : Nat × Nat) => match zz with | (bc, mc) => [blk bc [(.map (some mc))] 124, mHI mc (apK kv l)]) zz) w w' := by
  refine calls_of (args := [p_ bt, i_ t, vS al l cl]) (penv [p_ bt, i_ t, vS al l cl]) (feet []) [] Try.func36 rfl rfl (look_penv _) hs ?_
  refine A.sr (A.g [.p, .p, .p] [] [] ?_)
  refine A.tn (A.seq (A.block (A.sr (A.g [.p, .p, .p] [] [(14, b_ false)] ?_))))
  refine A.tn (A.cf (A.sr (A.g [.p, .p, .p, .o, .p, .p, .cl, .p] [14] [(17, b_ ((decide (t < 1)) || (decide (t > 65536))))] ?_)))
  refine A.tn (A.cn ((decide (t < 1)) || (decide (t > 65536))) (fun e1 => ?_) (fun e1 => ?_))
  · exact absurd e1 (by (intro h_; exact absurd ((tr_1 (kv := kv) (l := l) (by simp at h_; omega)).1.symm.trans hok) (by decide)))
  have p1 := e1; try simp only [nrm] at p1
  refine A.sr (A.g [.p, .p, .p, .p] [17] [(24, b_ (decide ((l.length : Int) > 32)))] ?_)
  refine A.tn (A.cn (decide ((l.length : Int) > 32)) (fun e2 => ?_) (fun e2 => ?_))
  · exact absurd e2 (by (intro h_; exact absurd ((tr_2 (kv := kv) (t := t) (l := l) (by omega) (by simp at h_; omega)).1.symm.trans hok) (by decide)))
  have p2 := of_decide_eq_false e2
  refine A.skip (A.bn (tsr (A.gp [.p] [0, 24] [(28, p_ bt)] ?_)))
  refine A.cons (A.cT (some 29) [p_ bt] [] ((fun zz => match zz with | (bc1, mc2) => (p_ bc1))) ((fun zz => match zz with | (bc1, mc2) => True)) ((fun zz => match zz with | (bc1, mc2) => [blk bc1 [(.map (some mc2))] 124, mHI mc2 kv])) (fun ww ss hh => copy_ok bt mb kv ww (old_item ss r0) (old_item ss r1) hh) ?_)
  rintro ⟨bc1, mc2⟩ -
  refine A.g [.p] [28, 29] [(9, p_ bc1)] ?_
  refine A.tn (A.seq (A.sr (A.g [.p, .p, .p] [2] [(30, vS al l cl), (31, c_ l.length), (32, i_ 0)] ?_)))
  refine A.tn (A.block (A.loop (fun (zz : Nat × (List (Int × Cl))) => match zz with | (k, kw) => [(1, i_ t), (9, p_ bc1), (30, vS al l cl), (31, c_ l.length), (32, c_ k)]) (fun (zz : Nat × (List (Int × Cl))) => match zz with | (k, kw) => [blk bc1 [(.map (some mc2))] 124, mHI mc2 kw]) (fun (zz : Nat × (List (Int × Cl))) => match zz with | (k, kw) => (k ≤ l.length) ∧ (kw = apK kv (l.take k)) ∧ (apE kv (l.take k) = 0) ∧ (Laid kw) ∧ (AOk kw)) (fun (zz : Nat × (List (Int × Cl))) => match zz with | (k, kw) => l.length - k) (0, kv) ⟨(by omega), (by rfl), (by rfl), (by assumption), (by assumption)⟩ ?_ ?_))
  · exact A.hK [0, 0]
  rintro ⟨k, kw⟩ ⟨hk, hw, h0, hLw, hKw⟩
  refine A.sr (A.g [.p] [] [(33, b_ (decide ((k : Int) < (l.length : Int))))] ?_)
  refine A.tn (A.seq (A.cn (decide ((k : Int) < (l.length : Int))) (fun e4 => ?_) (fun e4 => ?_)))
  · have p4 := of_decide_eq_true e4
    refine A.skip (A.tn (A.seq (A.block (A.sr (A.gpk [.p, .ix] [33] [(34, c_ k), (35, (.pointer (some ((at0 al).add (k * 15)))))] [] (fun κ => κ.ix al l.length (k : Int) ∧ True) ⟨(ixOf encZc_len (by decide) (rd_old r2 (by simp [feet])) (by omega)), trivial⟩ ?_)))))
    obtain ⟨x3, hx3⟩ : ∃ x, (l)[k]? = some x := ⟨_, List.getElem?_eq_getElem (by omega)⟩
    refine A.goA1 [.rd (encZc x3), .al, .p, .st 2] [1, 9, 30, 31, 32, 11, 10] (fun b4 => [(1, i_ t), (9, p_ bc1), (30, vS al l cl), (31, c_ l.length), (32, c_ k), (11, p_ b4), (10, c_ k)]) (fun b4 => [blk bc1 [(.map (some mc2))] 124, mHI mc2 kw, blk b4 (encZc x3) 111]) (fun b4 => [b4]) (fun _ => (fun κ => κ.rd ((at0 al).add (k * 15)) (encZc x3) ∧ True)) (fun _ => by kernel_rfl) (fun b4 => ⟨(reads_at0 (vs := (encZc x3)) encZc_len (rd_old r2 (by simp [feet])) hx3 (Nat.le_of_ble_eq_true rfl) rfl), trivial⟩) ?_
    intro b4
    refine tsr (A.gpk [.p, .ld 2] [11] [(37, p_ bc1), (38, (.agg (encZc x3).toArray))] [b4] T0 trivial ?_)
    refine A.cons (A.cT (some 39) [p_ bc1, (.agg (encZc x3).toArray)] [0, 0] ((fun kv'5 => (i_ (stE kw x3)))) ((fun kv'5 => kv'5 = stK kw x3)) ((fun kv'5 => [blk bc1 [(.map (some mc2))] 124, mHI mc2 kv'5])) (fun ww ss hh => one_spec bc1 mc2 kw x3 (by assumption) ww hh) ?_)
    rintro kv'5 hz5
    refine A.g [.p] [37, 38, 39] [(12, i_ (stE kw x3))] ?_
    refine tsr (A.g [.p, .p] [] [(41, b_ ((stE kw x3) != 0))] ?_)
    refine A.tn (A.cn ((stE kw x3) != 0) (fun e6 => ?_) (fun e6 => ?_))
    · exact absurd e6 (by (intro h_; have h2_ : ¬ stE kw x3 = 0 := (by simpa using h_); rw [hw] at h2_; exact absurd ((tr_3 (by omega) (by omega) (ap_at (by assumption) h0 h2_) h2_).1.symm.trans hok) h2_))
    have p6 := e6; try simp only [nrm] at p6
    refine A.skip (A.bn (tr (A.gk [.w ((k : Int) + 1), .p] [10, 12, 41] [(32, i_ ((k : Int) + 1))] [] (fun κ => (IntKind.i64.wrap ((k : Int) + 1) = ((k : Int) + 1)) ∧ True) ⟨(wrap_i64 (e := (k : Int) + 1) (by constructor <;> omega)), trivial⟩ ?_)))
    refine A.tn (A.next (k + 1, kv'5) ⟨(by omega), (by (subst_vars; exact (ap_step (by assumption) h0 (by assumption)).2.symm)), (by (subst hw; exact (ap_step (by assumption) h0 (by assumption)).1)), (by (subst_vars; exact laid_st hLw _)), (by (subst_vars; exact aok_st hKw hLw (hz _ (List.mem_of_getElem? (by assumption)))))⟩ (by (show l.length - (k + 1) < l.length - k; omega)) ?_)
    exact A.hK [0, 0]
  have p4 := of_decide_eq_false e4
  refine A.exit (A.te (A.te (A.bh (A.tn (A.seq (A.sr (A.gp [.p, .p] [1, 30, 31, 32, 33] [(45, i_ t), (46, p_ bc1)] ?_)))))))
  refine A.cons (A.cT (some 47) [p_ bc1] [] ((fun zz => match zz with | (al'6, cl'7) => (vS al'6 (realsL kw) cl'7))) ((fun zz => match zz with | (al'6, cl'7) => True)) ((fun zz => match zz with | (al'6, cl'7) => [sCv al'6 (realsL kw) cl'7])) (fun ww ss hh => reals_ok bc1 mc2 kw (by (have h_ := hLw.len; omega)) ww (ss.mem (i := 0) rfl) (ss.mem (i := 1) rfl) hh) ?_)
  rintro ⟨al'6, cl'7⟩ -
  refine A.gk [.cq (i_ (fitE t (realsL kw))), .p] [45, 46, 47] [(13, i_ (fitE t (realsL kw)))] [] (fun κ => κ.call 14 [i_ t, vS al'6 (realsL kw) cl'7] (i_ (fitE t (realsL kw))) ∧ True) ⟨(fun ww ss => fits_spec t al'6 (realsL kw) cl'7 (by (exact Nat.le_trans (realsL_len _) (by have h_ := hLw.len; omega))) (by exact reals_okV hKw) ww ((rd_sl (i := 0) rfl) ww ss)), trivial⟩ ?_
  refine tsr (A.g [.p, .p] [] [(50, b_ ((fitE t (realsL kw)) != 0))] ?_)
  refine A.tn (A.cn ((fitE t (realsL kw)) != 0) (fun e8 => ?_) (fun e8 => ?_))
  · exact absurd e8 (by (intro h_; have hk2_ : l.take k = l := List.take_of_length_le (by omega); rw [hk2_] at hw h0; rw [hw] at h_; simp at h_; exact absurd ((tr_4 (by omega) (by omega) h0).1.symm.trans hok) h_))
  have p8 := e8; try simp only [nrm] at p8
  refine A.skip (tsr (A.g [.p, .p, .p, .p] [9, 13, 50] [(6, p_ bc1), (7, i_ 0), (8, i_ 0)] ?_))
  refine A.tn (A.ret ?_)
  rw [show kw = (apK kv l) from by grind]
  refine A.pK [1, 1] [p_ bc1, i_ 0, i_ 0] (bc1, mc2) ?_ ?_
  · rfl
  trivial
end Go.Proofs.Ytinnnoimmioaiaa
