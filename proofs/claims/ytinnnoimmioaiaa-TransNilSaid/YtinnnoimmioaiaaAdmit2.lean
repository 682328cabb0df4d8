/- What the functions of this layer do, proved operation by operation, for all arguments, under the conditions that each theorem states. -/
import Derived.Test.YtinnnoimmioaiaaProg
import Derived.Test.YtinnnoimmioaiaaAdmit1
import Derived.Test.YtinnnoimmioaiaaL2
namespace Go.Proofs.Ytinnnoimmioaiaa
open Go V
set_option linter.unusedVariables false
set_option linter.unusedSimpArgs false
set_option maxHeartbeats 4000000
set_option maxRecDepth 100000
theorem knC_pos {l : List Cv} (hR : ∀ v ∈ l, CvOk v) : ∀ y ∈ knC l, 1 ≤ y ∧ y ≤ 1048576 := fun y hy => by
  have h := ((cmp_sort (kraw l)).2 y).1 hy
  unfold kraw at h
  obtain ⟨v, hv, rfl⟩ := List.mem_map.1 h
  obtain ⟨h1, h2⟩ := List.mem_filter.1 hv
  obtain ⟨q1, q2, q3⟩ := cv_nn (hR v h1)
  have h3 : ofC v.ka v.kb v.kc = 3 ∨ ofC v.ka v.kb v.kc = 4 := by simpa using h2
  have := ofC_max q1.1 q2.1 q3.1 (by omega)
  refine ⟨?_, this.2.2⟩
  unfold ofC at h3
  repeat' split at h3
  all_goals omega
theorem fit_0 {t : Int} {l : List Cv} (h : fitE t l = 0) : mayE t l = 0 ∧ (∀ y ∈ knC l, svs l y * t ≤ 65536 * y) ∧ slps false l * t ≤ 65536 := by
  unfold fitE at h; split at h
  · omega
  · rename_i h1
    have h1 : mayE t l = 0 := by omega
    split at h
    · omega
    · rename_i h2
      unfold fullW at h2; rw [if_neg (by omega)] at h2
      cases hf : (knC l).find? (abv l t) with
      | some k => rw [hf] at h2; simp at h2
      | none =>
        rw [hf] at h2
        refine ⟨h1, fun y hy => ?_, by simp at h2; omega⟩
        have := List.find?_eq_none.1 hf y hy
        unfold abv at this; simp at this; exact this
def rsI (t : Int) (l : List Cv) (k : Int) : Int := (65536 * k - svs l k * t) / (t * k)
def roomN (t : Int) (l : List Cv) : Nat → Int
  | 0 => (65536 * 1 - slps false l * t) / (t * 1)
  | j + 1 => match (knC l)[j]? with
    | none => roomN t l j
    | some k => imin (roomN t l j) (rsI t l k)
theorem roomN_s {t : Int} {l : List Cv} {j : Nat} {k : Int} (h : (knC l)[j]? = some k) : roomN t l (j + 1) = imin (roomN t l j) (rsI t l k) := by rw [roomN, h]
def roomW (t : Int) (l : List Cv) : Int := if fitE t l ≠ 0 then 0 else roomN t l (knC l).length
theorem div_rng {x t k : Int} (hx : 0 ≤ x ∧ x ≤ 65536 * k) (ht : 1 ≤ t) (hk : 1 ≤ k) : 0 ≤ x / (t * k) ∧ x / (t * k) ≤ 65536 := by
  have hp : 0 < t * k := Int.mul_pos (by omega) (by omega)
  refine ⟨Int.ediv_nonneg hx.1 (by omega), ?_⟩
  refine Int.ediv_le_of_le_mul hp ?_
  have : k ≤ t * k := by have := Int.mul_le_mul_of_nonneg_right ht (show 0 ≤ k by omega); omega
  omega

theorem full1_spec (k : Int) (bl bt : Nat) (al : Option Addr) (l : List Cv) (cl : Nat) (t : Int) (hl : l.length ≤ 1000) (hR : ∀ v ∈ l, CvOk v) (ht : 1 ≤ t ∧ t ≤ 65536) (hk : 0 ≤ k ∧ k < 18446744073709551616) (w : World) (r0 : (blk bl [vS al l cl] 22).holds w) (r1 : (blk bt [i_ t] 3).holds w) (r2 : arrAt w al (V.flat encCv l)) :
    Calls Try.prog 43 #[u_ k, p_ bl, p_ bt] w fun e w' => e = .returned (b_ (decide (svs l k * t > 65536 * k))) ∧ Fr [] w w' := by
  refine calls_of (args := [u_ k, p_ bl, p_ bt]) (penv [u_ k, p_ bl, p_ bt]) [] [] Try.func43 rfl rfl (look_penv _) (HS.nil w) ?_
  refine A.sr (A.g [.p] [] [] ?_)
  refine A.tn (A.seq (A.dA [.rd [vS al l cl], .p, .cq (.agg #[u_ (nH (svs l k)), u_ (nL (svs l k))]), .rd [i_ t], .p, .cq (b_ (decide ((svs l k) * t > 65536 * k))), .p] [0, 1, 2, 3, 4, 5, 6] [0, 1, 2] [(4, b_ (decide ((svs l k) * t > 65536 * k)))] [] (fun κ => κ.rd ⟨bl, 0, none⟩ [vS al l cl] ∧ κ.call 45 [vS al l cl, u_ k] (.agg #[u_ (nH (svs l k)), u_ (nL (svs l k))]) ∧ κ.rd ⟨bt, 0, none⟩ [i_ t] ∧ κ.call 44 [(.agg #[u_ (nH (svs l k)), u_ (nL (svs l k))]), i_ t, u_ k] (b_ (decide ((svs l k) * t > 65536 * k))) ∧ True) ⟨(reads_oldblk r0 rfl), (fun ww ss => ssv_spec al l cl k (by assumption) (by assumption) (by assumption) ww ((rd_old r2 (by simp [feet])) ww ss)), reads_oldblk r1 rfl, (fun ww ss => above_spec (svs l k) t k (by (have h_ := svs_rng hR hk hl; unfold W128; omega)) (by assumption) (by (have h_ := mul_p (svs_rng hR hk hl) ht; unfold W128; omega)) (by assumption) ww), trivial⟩ ?_))
  refine A.tn (A.ret (A.pQ [b_ (decide ((svs l k) * t > 65536 * k))] ?_))
  show ((b_ (decide ((svs l k) * t > 65536 * k))) : Value) = (b_ (decide (svs l k * t > 65536 * k)))
  rfl

theorem full_spec (t : Int) (al : Option Addr) (l : List Cv) (cl : Nat) (hl : l.length ≤ 1000) (hR : ∀ v ∈ l, CvOk v) (w : World) (r0 : arrAt w al (V.flat encCv l)) :
    Calls Try.prog 12 #[i_ t, vS al l cl] w fun e w' => e = .returned (.tuple #[u_ ((fullW t l).1), b_ ((fullW t l).2)]) ∧ Fr [] w w' := by
  refine calls_of (args := [i_ t, vS al l cl]) (penv [i_ t, vS al l cl]) [] [] Try.func12 rfl rfl (look_penv _) (HS.nil w) ?_
  refine A.sr (A.n2 [.al, .al, .p, .p] [0, 1] (fun b1 b2 => [(2, p_ b1), (3, p_ b2)]) (fun b1 b2 => [blk b1 [i_ t] 3, blk b2 [vS al l cl] 22]) ?_)
  intro b1 b2
  refine A.tn (A.seq (A.sr (A.gk [.ld 0, .ld 1, .cq (i_ (mayE t l)), .p] [] [(11, b_ ((mayE t l) != 0))] [b1, b2] (fun κ => κ.call 40 [i_ t, vS al l cl] (i_ (mayE t l)) ∧ True) ⟨(fun ww ss => may_spec t al l cl (by assumption) ww ((rd_old r0 (by simp [feet])) ww ss)), trivial⟩ ?_)))
  refine A.tn (A.cn ((mayE t l) != 0) (fun e1 => ?_) (fun e1 => ?_))
  · have p1 := e1; try simp only [nrm] at p1
    refine A.sr (A.g [.p, .p] [2, 3, 11] [(4, u_ 0), (5, b_ false)] ?_)
    refine A.tn (A.ret (A.tr ?_))
    have hF_ : fullW t l = (0, false) := (by unfold fullW; (rw [if_pos (by assumption)]; done))
    refine A.pQ [u_ 0, b_ false] ?_
    show ((.tuple #[u_ 0, b_ false]) : Value) = (.tuple #[u_ ((fullW t l).1), b_ ((fullW t l).2)])
    rw [hF_]
  have p1 := e1; try simp only [nrm] at p1
  refine A.skip (A.tn (A.seq ?_))
  obtain ⟨ht, hok⟩ := may_0 (by assumption)
  refine A.region (A.gpk [.ld 1] [11] [(12, vS al l cl)] [b2] T0 trivial ?_)
  refine A.cons (A.cT (some 13) [vS al l cl] [] ((fun zz => match zz with | (al'3, cl'4) => (vS al'3 (knC l) cl'4))) ((fun zz => match zz with | (al'3, cl'4) => True)) ((fun zz => match zz with | (al'3, cl'4) => [sU al'3 (knC l) cl'4])) (fun ww ss hh => skn_spec al l cl (by assumption) ww ((rd_old r0 (by simp [feet])) ww ss) hh) ?_)
  rintro ⟨al'3, cl'4⟩ -
  refine A.g [.p] [12, 13] [(6, vS al'3 (knC l) cl'4)] ?_
  refine tsr (A.gp [.p, .p] [] [(14, vS al'3 (knC l) cl'4), (15, (.func (.func 43) #[] #[p_ b2, p_ b1]))] ?_)
  refine A.cons (A.inlX (some 16) [vS al'3 (knC l) cl'4, (.func (.func 43) #[] #[p_ b2, p_ b1])] [(0, vS al'3 (knC l) cl'4), (1, (.func (.func 43) #[] #[p_ b2, p_ b1]))] (by kernel_rfl) rfl Try.func42 rfl rfl ?_)
  refine A.sr (A.g [.p] [] [] ?_)
  refine A.tn (A.seq (A.sr (A.g [.p, .p, .p] [] [(7, i_ ((knC l).length : Int)), (8, i_ 0)] ?_)))
  refine A.tn (A.block (A.loop (fun (zz : Nat) => match zz with | k => [(0, vS al'3 (knC l) cl'4), (1, (.func (.func 43) #[] #[p_ b2, p_ b1])), (7, i_ ((knC l).length : Int)), (8, c_ k)]) (fun (zz : Nat) => match zz with | k => [sU al'3 (knC l) cl'4, blk b1 [i_ t] 3, blk b2 [vS al l cl] 22]) (fun (zz : Nat) => match zz with | k => (k ≤ (knC l).length) ∧ (∀ x ∈ (knC l).take k, abv l t x = false)) (fun (zz : Nat) => match zz with | k => (knC l).length - k) (0 : Nat) ⟨(by omega), (by simp)⟩ ?_ ?_))
  · exact A.hK [0, 0, 0]
  rintro k ⟨hk, hn⟩
  have hkn := knC_len l
  refine A.sr (A.g [.p] [] [(9, b_ (decide ((k : Int) < ((knC l).length : Int))))] ?_)
  refine A.tn (A.seq (A.cn (decide ((k : Int) < ((knC l).length : Int))) (fun e3 => ?_) (fun e3 => ?_)))
  · have p3 := of_decide_eq_true e3
    refine A.skip (A.tn (A.seq (A.block (A.sr (A.g [.p, .p] [9] [(5, c_ k)] ?_)))))
    refine tsr (A.gpk [.p, .p, .p, .ix] [] [(11, (.func (.func 43) #[] #[p_ b2, p_ b1])), (14, (.pointer (some ((at0 al'3).add (k * 1)))))] [] (fun κ => κ.ix al'3 ((knC l).length) (k : Int) ∧ True) ⟨(ixOf encU_len (by decide) (rd_sl (i := 0) rfl) (by omega)), trivial⟩ ?_)
    obtain ⟨x6, hx6⟩ : ∃ x, ((knC l))[k]? = some x := ⟨_, List.getElem?_eq_getElem (by omega)⟩
    refine A.gk [.rd [u_ x6], .cq (b_ (decide (svs l x6 * t > 65536 * x6)))] [11, 14] [(16, b_ (decide (svs l x6 * t > 65536 * x6)))] [] (fun κ => κ.rd ((at0 al'3).add (k * 1)) [u_ x6] ∧ κ.call 43 [u_ x6, p_ b2, p_ b1] (b_ (decide (svs l x6 * t > 65536 * x6))) ∧ True) ⟨(reads_at0 (vs := [u_ x6]) encU_len (rd_sl (i := 0) rfl) hx6 (Nat.le_of_ble_eq_true rfl) rfl), (fun ww ss => full1_spec x6 b2 b1 al l cl t (by assumption) (by assumption) (by assumption) (by exact knC_rng hR _ (List.mem_of_getElem? (by assumption))) ww (ss.mem (i := 2) rfl) (ss.mem (i := 1) rfl) ((rd_old r0 (by simp [feet])) ww ss)), trivial⟩ ?_
    refine A.tn (A.cn (decide (svs l x6 * t > 65536 * x6)) (fun e4 => ?_) (fun e4 => ?_))
    · have p4 := of_decide_eq_true e4
      refine A.sr (A.g [.p, .p] [0, 1, 7, 8, 5, 16] [(4, c_ k)] ?_)
      refine A.tn (A.ret (A.br (A.tr (A.tr (A.br (A.tr (A.post [c_ k] (fun aa ww rr ss => ⟨rv_tmp rr rfl, trivial⟩) (A.back (by kernel_rfl) ?_))))))))
      refine A.goA [.p] [(2, p_ b1), (3, p_ b2), (6, vS al'3 (knC l) cl'4), (7, c_ k)] [] T0 (by kernel_rfl) trivial ?_
      refine A.tn (A.seq (A.sr (A.g [.p, .p] [] [(18, b_ (decide ((k : Int) ≥ 0)))] ?_)))
      refine A.tn (A.cn (decide ((k : Int) ≥ 0)) (fun e5 => ?_) (fun e5 => ?_))
      · have p5 := of_decide_eq_true e5
        refine A.sr (A.gk [.p, .p, .ix, .rd [u_ x6], .p, .p] [2, 3, 6, 7, 18] [(4, u_ x6), (5, b_ true)] [] (fun κ => κ.ix al'3 ((knC l).length) (k : Int) ∧ κ.rd ((at0 al'3).add (k * 1)) [u_ x6] ∧ True) ⟨(ixOf encU_len (by decide) (rd_sl (i := 0) rfl) (by omega)), reads_at0 (vs := [u_ x6]) encU_len (rd_sl (i := 0) rfl) hx6 (Nat.le_of_ble_eq_true rfl) rfl, trivial⟩ ?_)
        refine A.tn (A.ret (A.tr ?_))
        have hF_ : fullW t l = (x6, true) := (by unfold fullW; (rw [if_neg (by omega), fndI_at hn (by assumption) (by assumption)]; done))
        refine A.pQ [u_ x6, b_ true] ?_
        show ((.tuple #[u_ x6, b_ true]) : Value) = (.tuple #[u_ ((fullW t l).1), b_ ((fullW t l).2)])
        rw [hF_]
      have p5 := of_decide_eq_false e5
      refine A.skip (A.tn (A.seq (A.dA [.ld 2, .cq (.agg #[u_ (nH (slps false l)), u_ (nL (slps false l))]), .ld 1, .cq (b_ (decide ((slps false l) * t > 65536 * 1))), .p, .p] [0, 1, 2, 3, 4, 5] [2, 3, 6, 7, 18] [(4, u_ 0), (5, b_ (decide ((slps false l) * t > 65536 * 1)))] [b2, b1] (fun κ => κ.call 46 [vS al l cl] (.agg #[u_ (nH (slps false l)), u_ (nL (slps false l))]) ∧ κ.call 44 [(.agg #[u_ (nH (slps false l)), u_ (nL (slps false l))]), i_ t, u_ 1] (b_ (decide ((slps false l) * t > 65536 * 1))) ∧ True) ⟨(fun ww ss => ssl_spec al l cl (by assumption) (by assumption) ww ((rd_old r0 (by simp [feet])) ww ss)), (fun ww ss => above_spec (slps false l) t 1 (by omega) (by assumption) (by omega) (by omega) ww), trivial⟩ ?_)))
      refine A.tn (A.ret ?_)
      have hF_ : fullW t l = (0, decide ((slps false l) * t > 65536 * 1)) := (by unfold fullW; (rw [if_neg (by omega), fndI_no hn (by omega)]; done))
      refine A.pQ [u_ 0, b_ (decide ((slps false l) * t > 65536 * 1))] ?_
      show ((.tuple #[u_ 0, b_ (decide ((slps false l) * t > 65536 * 1))]) : Value) = (.tuple #[u_ ((fullW t l).1), b_ ((fullW t l).2)])
      rw [hF_]
    have p4 := of_decide_eq_false e4
    refine A.skip (A.bn (tr (A.gk [.w ((k : Int) + 1), .p] [5, 16] [(8, i_ ((k : Int) + 1))] [] (fun κ => (IntKind.i64.wrap ((k : Int) + 1) = ((k : Int) + 1)) ∧ True) ⟨(wrap_i64 (e := (k : Int) + 1) (by constructor <;> omega)), trivial⟩ ?_)))
    refine A.tn (A.next (k + 1) ⟨(by omega), (by exact fndI_s hn (by assumption) (by assumption))⟩ (by (simp; omega)) ?_)
    exact A.hK [0, 0, 0]
  have p3 := of_decide_eq_false e3
  refine A.exit (A.te (A.te (A.bh (tsr (A.g [.p] [0, 1, 7, 8, 9] [(4, i_ (-1))] ?_)))))
  refine A.tn (A.ret (A.post [i_ (-1)] (fun aa ww rr ss => ⟨rv_tmp rr rfl, trivial⟩) (A.back (by kernel_rfl) ?_)))
  refine A.goA [.p] [(2, p_ b1), (3, p_ b2), (6, vS al'3 (knC l) cl'4), (7, i_ (-1))] [] T0 (by kernel_rfl) trivial ?_
  refine A.tn (A.seq (A.sr (A.g [.p, .p] [] [(18, b_ false)] ?_)))
  refine A.tn (A.cf (A.skip (A.tn (A.seq (A.dA [.ld 2, .cq (.agg #[u_ (nH (slps false l)), u_ (nL (slps false l))]), .ld 1, .cq (b_ (decide ((slps false l) * t > 65536 * 1))), .p, .p] [0, 1, 2, 3, 4, 5] [2, 3, 6, 7, 18] [(4, u_ 0), (5, b_ (decide ((slps false l) * t > 65536 * 1)))] [b2, b1] (fun κ => κ.call 46 [vS al l cl] (.agg #[u_ (nH (slps false l)), u_ (nL (slps false l))]) ∧ κ.call 44 [(.agg #[u_ (nH (slps false l)), u_ (nL (slps false l))]), i_ t, u_ 1] (b_ (decide ((slps false l) * t > 65536 * 1))) ∧ True) ⟨(fun ww ss => ssl_spec al l cl (by assumption) (by assumption) ww ((rd_old r0 (by simp [feet])) ww ss)), (fun ww ss => above_spec (slps false l) t 1 (by (have h_ := slps_rng (st := false) hR hl; unfold W128; omega)) (by assumption) (by (have h_ := mul_p (slps_rng (st := false) hR hl) ht; unfold W128; omega)) (by omega) ww), trivial⟩ ?_)))))
  refine A.tn (A.ret ?_)
  have hF_ : fullW t l = (0, decide ((slps false l) * t > 65536 * 1)) := (by unfold fullW; (rw [if_neg (by omega), fndI_no hn (by omega)]; done))
  refine A.pQ [u_ 0, b_ (decide ((slps false l) * t > 65536 * 1))] ?_
  show ((.tuple #[u_ 0, b_ (decide ((slps false l) * t > 65536 * 1))]) : Value) = (.tuple #[u_ ((fullW t l).1), b_ ((fullW t l).2)])
  rw [hF_]

theorem fits_spec (t : Int) (al : Option Addr) (l : List Cv) (cl : Nat) (hl : l.length ≤ 1000) (hR : ∀ v ∈ l, CvOk v) (w : World) (r0 : arrAt w al (V.flat encCv l)) :
    Calls Try.prog 14 #[i_ t, vS al l cl] w fun e w' => e = .returned (i_ (fitE t l)) ∧ Fr [] w w' := by
  refine calls_of (args := [i_ t, vS al l cl]) (penv [i_ t, vS al l cl]) [] [] Try.func14 rfl rfl (look_penv _) (HS.nil w) ?_
  refine A.sr (A.g [.p] [] [] ?_)
  refine A.tn (A.seq (A.sr (A.gk [.p, .p, .cq (i_ (mayE t l)), .p] [] [(5, i_ (mayE t l))] [] (fun κ => κ.call 40 [i_ t, vS al l cl] (i_ (mayE t l)) ∧ True) ⟨(fun ww ss => may_spec t al l cl (by assumption) ww ((rd_old r0 (by simp [feet])) ww ss)), trivial⟩ ?_)))
  refine tsr (A.g [.p, .p] [] [(12, b_ ((mayE t l) != 0))] ?_)
  refine A.tn (A.cn ((mayE t l) != 0) (fun e1 => ?_) (fun e1 => ?_))
  · have p1 := e1; try simp only [nrm] at p1
    refine A.sr (A.g [.p, .p] [0, 1, 5, 12] [(4, i_ (mayE t l))] ?_)
    refine A.tn (A.ret (A.tr (A.pQ [i_ (mayE t l)] ?_)))
    show ((i_ (mayE t l)) : Value) = (i_ (fitE t l))
    refine congrArg (Value.int .i64) ?_; unfold fitE; (rw [if_pos (by assumption)]; done)
  have p1 := e1; try simp only [nrm] at p1
  refine A.skip (A.tn (A.seq (A.sr (A.gk [.p, .p, .cq (.tuple #[u_ ((fullW t l).1), b_ ((fullW t l).2)]), .p, .p, .p, .p, .p] [0, 1, 5, 12] [(7, b_ ((fullW t l).2))] [] (fun κ => κ.call 12 [i_ t, vS al l cl] (.tuple #[u_ ((fullW t l).1), b_ ((fullW t l).2)]) ∧ True) ⟨(fun ww ss => full_spec t al l cl (by assumption) (by assumption) ww ((rd_old r0 (by simp [feet])) ww ss)), trivial⟩ ?_))))
  refine tsr (A.g [.p] [7] [(20, b_ ((fullW t l).2))] ?_)
  refine A.tn (A.cn ((fullW t l).2) (fun e2 => ?_) (fun e2 => ?_))
  · have p2 := e2; try simp only [nrm] at p2
    refine A.sr (A.g [.p] [20] [(4, i_ 22)] ?_)
    refine A.tn (A.ret (A.tr (A.pQ [i_ 22] ?_)))
    show ((i_ 22) : Value) = (i_ (fitE t l))
    refine congrArg (Value.int .i64) ?_; unfold fitE; (rw [if_neg (by omega), if_pos (by assumption)]; done)
  have p2 := e2; try simp only [nrm] at p2
  refine A.skip (tsr (A.g [.p] [20] [(4, i_ 0)] ?_))
  refine A.tn (A.ret (A.pQ [i_ 0] ?_))
  show ((i_ 0) : Value) = (i_ (fitE t l))
  refine congrArg (Value.int .i64) ?_; unfold fitE; (rw [if_neg (by omega), if_neg (by simp_all)]; done)

theorem rfull_spec (t : Int) (al : Option Addr) (l : List Cv) (cl : Nat) (hl : l.length ≤ 1000) (hR : ∀ v ∈ l, CvOk v) (w : World) (r0 : arrAt w al (V.flat encCv l)) :
    Calls Try.prog 13 #[i_ t, vS al l cl] w fun e w' => e = .returned (.agg #[u_ ((fullW t l).1), b_ ((fullW t l).2)]) ∧ Fr [] w w' := by
  refine calls_of (args := [i_ t, vS al l cl]) (penv [i_ t, vS al l cl]) [] [] Try.func13 rfl rfl (look_penv _) (HS.nil w) ?_
  refine A.sr (A.n1 [.al] [] (fun b1 => [(4, p_ b1)]) (fun b1 => blk b1 [u_ 0, b_ false] 28) ?_)
  intro b1
  refine A.tn (A.seq (A.sr (A.gk [.p, .p, .cq (i_ (mayE t l)), .p] [] [(10, b_ ((mayE t l) != 0))] [] (fun κ => κ.call 47 [i_ t, vS al l cl] (i_ (mayE t l)) ∧ True) ⟨(fun ww ss => rmay_spec t al l cl (by assumption) (by assumption) ww ((rd_old r0 (by simp [feet])) ww ss)), trivial⟩ ?_)))
  refine A.tn (A.cn ((mayE t l) != 0) (fun e1 => ?_) (fun e1 => ?_))
  · have p1 := e1; try simp only [nrm] at p1
    refine A.sr (A.gs [.p, .st 0] [0, 1, 10] [] [] [b1] ?_)
    refine A.tn (A.ret (A.tr ?_))
    have hF_ : fullW t l = (0, false) := (by unfold fullW; (rw [if_pos (by assumption)]; done))
    refine A.postQ [(.agg #[u_ 0, b_ false])] (fun aa ww rr ss => ⟨rv_cellN (vs := [u_ 0, b_ false]) rr ss rfl (by kernel_rfl) (reads_blk (i := 0) rfl rfl), trivial⟩) ?_
    show ((.agg #[u_ 0, b_ false]) : Value) = (.agg #[u_ ((fullW t l).1), b_ ((fullW t l).2)])
    rw [hF_]
  have p1 := e1; try simp only [nrm] at p1
  refine A.skip (A.tn (A.seq (A.sr (A.gp [.p] [10] [(12, vS al l cl)] ?_))))
  refine A.cons (A.cT (some 13) [vS al l cl] [] ((fun zz => match zz with | (al'2, cl'3) => (vS al'2 (knR l l.length) cl'3))) ((fun zz => match zz with | (al'2, cl'3) => True)) ((fun zz => match zz with | (al'2, cl'3) => [sU al'2 (knR l l.length) cl'3])) (fun ww ss hh => rkn_spec al l cl (by assumption) ww ((rd_old r0 (by simp [feet])) ww ss) hh) ?_)
  rintro ⟨al'2, cl'3⟩ -
  refine A.g [.p, .p] [12] [(13, vS al'2 (knR l l.length) cl'3), (14, i_ ((knR l l.length).length : Int)), (15, i_ 0)] ?_
  refine A.tn (A.block ?_)
  have hkl2 : (knR l l.length).length = (knC l).length := by rw [kn_eq hR]
  have hcv5 : (knR l l.length) = (knC l) := by exact kn_eq hR
  refine A.setH [sU al'2 (knC l) cl'3, blk b1 [u_ 0, b_ false] 28] (cc (slC hcv5) rfl) ?_
  refine A.sv 13 (vS al'2 (knC l) cl'3) (cgL hcv5) ?_
  refine A.loop (fun (zz : Nat) => match zz with | k => [(0, i_ t), (1, vS al l cl), (4, p_ b1), (13, vS al'2 (knC l) cl'3), (14, i_ ((knR l l.length).length : Int)), (15, c_ k)]) (fun (zz : Nat) => match zz with | k => [sU al'2 (knC l) cl'3, blk b1 [u_ 0, b_ false] 28]) (fun (zz : Nat) => match zz with | k => (k ≤ (knC l).length) ∧ (∀ x ∈ (knC l).take k, abv l t x = false)) (fun (zz : Nat) => match zz with | k => (knC l).length - k) (0 : Nat) ⟨(by omega), (by simp)⟩ ?_ ?_
  · exact A.hK [0, 0]
  rintro k ⟨hk, hn⟩
  have hkn := knC_len l
  refine A.sr (A.g [.p] [] [(16, b_ (decide ((k : Int) < ((knR l l.length).length : Int))))] ?_)
  refine A.tn (A.seq (A.cn (decide ((k : Int) < ((knR l l.length).length : Int))) (fun e3 => ?_) (fun e3 => ?_)))
  · have p3 := of_decide_eq_true e3
    refine A.skip (A.tn (A.seq (A.block (A.sr (A.gpk [.ix] [16] [(17, (.pointer (some ((at0 al'2).add (k * 1)))))] [] (fun κ => κ.ix al'2 ((knC l).length) (k : Int) ∧ True) ⟨(ixOf encU_len (by decide) (rd_sl (i := 0) rfl) (by omega)), trivial⟩ ?_)))))
    obtain ⟨x6, hx6⟩ : ∃ x, ((knC l))[k]? = some x := ⟨_, List.getElem?_eq_getElem (by omega)⟩
    refine A.gk [.rd [u_ x6], .p] [17] [(6, u_ x6)] [] (fun κ => κ.rd ((at0 al'2).add (k * 1)) [u_ x6] ∧ True) ⟨(reads_at0 (vs := [u_ x6]) encU_len (rd_sl (i := 0) rfl) hx6 (Nat.le_of_ble_eq_true rfl) rfl), trivial⟩ ?_
    refine tsr (A.gk [.p, .p, .cq (.agg #[u_ (dA (svs l x6)), u_ (dB (svs l x6)), u_ (dC (svs l x6)), u_ (dD (svs l x6))]), .p, .p, .cq (b_ (decide ((svs l x6) * t ≤ 65536 * x6))), .p] [] [(25, b_ (!(decide ((svs l x6) * t ≤ 65536 * x6))))] [] (fun κ => κ.call 17 [vS al l cl, u_ x6] (.agg #[u_ (dA (svs l x6)), u_ (dB (svs l x6)), u_ (dC (svs l x6)), u_ (dD (svs l x6))]) ∧ κ.call 16 [(.agg #[u_ (dA (svs l x6)), u_ (dB (svs l x6)), u_ (dC (svs l x6)), u_ (dD (svs l x6))]), i_ t, u_ x6] (b_ (decide ((svs l x6) * t ≤ 65536 * x6))) ∧ True) ⟨(fun ww ss => rssv_spec al l cl x6 (by assumption) (by assumption) (by exact knC_rng hR _ (List.mem_of_getElem? (by assumption))) ww ((rd_old r0 (by simp [feet])) ww ss)), (fun ww ss => carries_spec (svs l x6) t x6 (by (have h_ := svs_rng hR (knC_rng hR _ (List.mem_of_getElem? (by assumption))) hl; unfold W128; omega)) (by (obtain ⟨ht, hok⟩ := may_0 (by assumption); assumption)) (by (obtain ⟨ht, hok⟩ := may_0 (by assumption); (have h_ := mul_p (svs_rng hR (knC_rng hR _ (List.mem_of_getElem? (by assumption))) hl) ht; unfold W128; omega))) (by exact knC_rng hR _ (List.mem_of_getElem? (by assumption))) ww), trivial⟩ ?_)
    refine A.tn (A.cn (!(decide ((svs l x6) * t ≤ 65536 * x6))) (fun e4 => ?_) (fun e4 => ?_))
    · have p4 := e4; try simp only [nrm] at p4
      refine A.sr (A.gs [.p, .p, .st 1] [0, 1, 13, 14, 15, 6, 25] [] [(1, blk b1 [u_ x6, b_ true] 28)] [b1] ?_)
      refine A.tn (A.ret (A.br (A.tr (A.tr (A.br (A.tr ?_))))))
      have hF_ : fullW t l = (x6, true) := (by unfold fullW; (rw [if_neg (by omega), fndI_at hn (by assumption) (by (unfold abv; simp; omega))]; done))
      refine A.postQ [(.agg #[u_ x6, b_ true])] (fun aa ww rr ss => ⟨rv_cellN (vs := [u_ x6, b_ true]) rr ss rfl (by kernel_rfl) (reads_blk (i := 1) rfl rfl), trivial⟩) ?_
      show ((.agg #[u_ x6, b_ true]) : Value) = (.agg #[u_ ((fullW t l).1), b_ ((fullW t l).2)])
      rw [hF_]
    have p4 := e4; try simp only [nrm] at p4
    refine A.skip (A.bn (tr (A.gk [.w ((k : Int) + 1), .p] [6, 25] [(15, i_ ((k : Int) + 1))] [] (fun κ => (IntKind.i64.wrap ((k : Int) + 1) = ((k : Int) + 1)) ∧ True) ⟨(wrap_i64 (e := (k : Int) + 1) (by constructor <;> omega)), trivial⟩ ?_)))
    refine A.tn (A.next (k + 1) ⟨(by omega), (by exact fndI_s hn (by assumption) (by unfold abv; simp_all; done))⟩ (by (simp; omega)) ?_)
    exact A.hK [0, 0]
  have p3 := of_decide_eq_false e3
  refine A.exit (A.te (A.te (A.bh (tsr (A.gsk [.p, .cq (.agg #[u_ (dA (slps false l)), u_ (dB (slps false l)), u_ (dC (slps false l)), u_ (dD (slps false l))]), .p, .cq (b_ (decide ((slps false l) * t ≤ 65536 * 1))), .p, .p, .st 1] [0, 1, 13, 14, 15, 16] [] [(1, blk b1 [u_ 0, b_ (!(decide ((slps false l) * t ≤ 65536 * 1)))] 28)] [b1] (fun κ => κ.call 49 [vS al l cl, b_ false] (.agg #[u_ (dA (slps false l)), u_ (dB (slps false l)), u_ (dC (slps false l)), u_ (dD (slps false l))]) ∧ κ.call 16 [(.agg #[u_ (dA (slps false l)), u_ (dB (slps false l)), u_ (dC (slps false l)), u_ (dD (slps false l))]), i_ t, u_ 1] (b_ (decide ((slps false l) * t ≤ 65536 * 1))) ∧ True) ⟨(fun ww ss => rssl_spec al l cl false (by assumption) (by assumption) ww ((rd_old r0 (by simp [feet])) ww ss)), (fun ww ss => carries_spec (slps false l) t 1 (by (have h_ := slps_rng (st := false) hR hl; unfold W128; omega)) (by (obtain ⟨ht, hok⟩ := may_0 (by assumption); assumption)) (by (obtain ⟨ht, hok⟩ := may_0 (by assumption); (have h_ := mul_p (slps_rng (st := false) hR hl) ht; unfold W128; omega))) (by omega) ww), trivial⟩ ?_)))))
  refine A.tn (A.ret ?_)
  have hF_ : fullW t l = (0, !(decide ((slps false l) * t ≤ 65536 * 1))) := (by unfold fullW; (rw [if_neg (by omega), fndI_no hn (by omega)]; (refine congrArg (Prod.mk 0) ?_; rw [Bool.eq_iff_iff]; simp)))
  refine A.postQ [(.agg #[u_ 0, b_ (!(decide ((slps false l) * t ≤ 65536 * 1)))])] (fun aa ww rr ss => ⟨rv_cellN (vs := [u_ 0, b_ (!(decide ((slps false l) * t ≤ 65536 * 1)))]) rr ss rfl (by kernel_rfl) (reads_blk (i := 1) rfl rfl), trivial⟩) ?_
  show ((.agg #[u_ 0, b_ (!(decide ((slps false l) * t ≤ 65536 * 1)))]) : Value) = (.agg #[u_ ((fullW t l).1), b_ ((fullW t l).2)])
  rw [hF_]

theorem rfits_spec (t : Int) (al : Option Addr) (l : List Cv) (cl : Nat) (hl : l.length ≤ 1000) (hR : ∀ v ∈ l, CvOk v) (w : World) (r0 : arrAt w al (V.flat encCv l)) :
    Calls Try.prog 15 #[i_ t, vS al l cl] w fun e w' => e = .returned (i_ (fitE t l)) ∧ Fr [] w w' := by
  refine calls_of (args := [i_ t, vS al l cl]) (penv [i_ t, vS al l cl]) [] [] Try.func15 rfl rfl (look_penv _) (HS.nil w) ?_
  refine A.sr (A.g [.p] [] [] ?_)
  refine A.tn (A.seq (A.sr (A.gk [.p, .p, .cq (i_ (mayE t l)), .p] [] [(5, i_ (mayE t l))] [] (fun κ => κ.call 47 [i_ t, vS al l cl] (i_ (mayE t l)) ∧ True) ⟨(fun ww ss => rmay_spec t al l cl (by assumption) (by assumption) ww ((rd_old r0 (by simp [feet])) ww ss)), trivial⟩ ?_)))
  refine tsr (A.g [.p, .p] [] [(10, b_ ((mayE t l) != 0))] ?_)
  refine A.tn (A.cn ((mayE t l) != 0) (fun e1 => ?_) (fun e1 => ?_))
  · have p1 := e1; try simp only [nrm] at p1
    refine A.sr (A.g [.p, .p] [0, 1, 5, 10] [(4, i_ (mayE t l))] ?_)
    refine A.tn (A.ret (A.tr (A.pQ [i_ (mayE t l)] ?_)))
    show ((i_ (mayE t l)) : Value) = (i_ (fitE t l))
    refine congrArg (Value.int .i64) ?_; unfold fitE; (rw [if_pos (by assumption)]; done)
  have p1 := e1; try simp only [nrm] at p1
  refine A.skip (A.tn (A.seq (A.sr (A.gk [.p, .p, .cq (.agg #[u_ ((fullW t l).1), b_ ((fullW t l).2)]), .p] [0, 1, 5, 10] [(15, b_ ((fullW t l).2))] [] (fun κ => κ.call 13 [i_ t, vS al l cl] (.agg #[u_ ((fullW t l).1), b_ ((fullW t l).2)]) ∧ True) ⟨(fun ww ss => rfull_spec t al l cl (by assumption) (by assumption) ww ((rd_old r0 (by simp [feet])) ww ss)), trivial⟩ ?_))))
  refine A.tn (A.cn ((fullW t l).2) (fun e2 => ?_) (fun e2 => ?_))
  · have p2 := e2; try simp only [nrm] at p2
    refine A.sr (A.g [.p] [15] [(4, i_ 22)] ?_)
    refine A.tn (A.ret (A.tr (A.pQ [i_ 22] ?_)))
    show ((i_ 22) : Value) = (i_ (fitE t l))
    refine congrArg (Value.int .i64) ?_; unfold fitE; (rw [if_neg (by omega), if_pos (by assumption)]; done)
  have p2 := e2; try simp only [nrm] at p2
  refine A.skip (tsr (A.g [.p] [15] [(4, i_ 0)] ?_))
  refine A.tn (A.ret (A.pQ [i_ 0] ?_))
  show ((i_ 0) : Value) = (i_ (fitE t l))
  refine congrArg (Value.int .i64) ?_; unfold fitE; (rw [if_neg (by omega), if_neg (by simp_all)]; done)
end Go.Proofs.Ytinnnoimmioaiaa
