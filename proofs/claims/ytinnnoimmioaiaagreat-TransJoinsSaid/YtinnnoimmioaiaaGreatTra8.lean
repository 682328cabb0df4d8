/- What the functions of this layer do, proved operation by operation, for all arguments, under the conditions that each theorem states. -/
import Derived.Test.YtinnnoimmioaiaaGreatProg
import Derived.Test.YtinnnoimmioaiaaGreatTra7
import Derived.Test.YtinnnoimmioaiaaGreatL2
namespace Go.Proofs.YtinnnoimmioaiaaGreat
open Go V
set_option linter.unusedVariables false
set_option linter.unusedSimpArgs false
set_option maxHeartbeats 4000000
set_option maxRecDepth 100000
def apR (l : List Cl) : List Zc → List Cl
  | [] => l
  | z :: c => apR (oneLR l z) c
theorem apR_app (z : Zc) : ∀ (c : List Zc) (l : List Cl), apR l (c ++ [z]) = oneLR (apR l c) z
  | [], _ => rfl
  | y :: c, l => apR_app z c (oneLR l y)
theorem apR_snoc {l : List Cl} {c : List Zc} {k : Nat} {z : Zc} (h : c[k]? = some z) : apR l (c.take (k + 1)) = oneLR (apR l (c.take k)) z := by
  rw [List.take_add_one, h]; exact apR_app z _ l
theorem apR_0 {l : List Cl} {c : List Zc} {z : Zc} (h : c[0]? = some z) : apR l (c.take 1) = oneLR l z := apR_snoc (k := 0) h
theorem kr_st {kv : List (Int × Cl)} {R : List Cl} (h : KR kv R) (hL : Laid kv) {z : Zc} (hz : ZcOk z) : KR (stK kv z) (oneLR R z) := by
  unfold stK oneLR
  by_cases h1 : z.zk = 1
  · rw [if_pos h1, if_pos h1]; exact kr_addK h hL (clZ_ok hz)
  · by_cases h2 : z.zk = 2
    · rw [if_neg h1, if_neg h1, if_neg (by omega), if_pos h2, if_pos h2]; exact kr_delK h _
    · by_cases h3 : z.zk = 3
      · rw [if_neg h1, if_neg h1, if_pos h3, if_neg h2, if_pos h3]; exact kr_setK h hL (clZ_ok hz)
      · rw [if_neg h1, if_neg h1, if_neg h3, if_neg h2, if_neg h2, if_neg h3]; exact h
theorem st_eq {kv : List (Int × Cl)} {R : List Cl} (h : KR kv R) (hL : Laid kv) {z : Zc} (hz : ZcOk z) : stE kv z = oneER R z := by
  unfold stE oneER
  by_cases h1 : z.zk = 1
  · rw [if_pos h1, if_pos h1]; exact add_eq h hL (clZ_ok hz)
  · by_cases h2 : z.zk = 2
    · rw [if_neg h1, if_neg h1, if_neg (by omega), if_pos h2, if_pos h2]; exact del_eq h _
    · by_cases h3 : z.zk = 3
      · rw [if_neg h1, if_neg h1, if_pos h3, if_neg h2, if_pos h3]; exact set_eq h hL (clZ_ok hz)
      · rw [if_neg h1, if_neg h1, if_neg h3, if_neg h2, if_neg h2, if_neg h3]
theorem kr_ap : ∀ {c : List Zc} {kv : List (Int × Cl)} {R : List Cl}, KR kv R → Laid kv → (∀ z ∈ c, ZcOk z) → KR (apK kv c) (apR R c)
  | [], _, _, h, _, _ => h
  | z :: c, _, _, h, hL, hz => kr_ap (c := c) (kr_st h hL (hz z (by simp))) (laid_st hL z) (fun y hy => hz y (by simp [hy]))
theorem ap_k {kv : List (Int × Cl)} {R : List Cl} {c : List Zc} {k : Nat} {z : Zc} (hK : KR (apK kv (c.take k)) R) (hL : Laid (apK kv (c.take k))) (hz : ∀ z ∈ c, ZcOk z) (h : c[k]? = some z) (h0 : apE kv (c.take k) = 0) (hr : oneER R z = 0) :
    apE kv (c.take (k + 1)) = 0 ∧ KR (apK kv (c.take (k + 1))) (oneLR R z) ∧ Laid (apK kv (c.take (k + 1))) := by
  have hzz := hz z (List.mem_of_getElem? h)
  obtain ⟨h1, h2⟩ := ap_step h h0 ((st_eq hK hL hzz).trans hr)
  rw [h2]; exact ⟨h1, kr_st hK hL hzz, laid_st hL z⟩
theorem ap_0 {kv : List (Int × Cl)} {R : List Cl} {c : List Zc} {z : Zc} (hK : KR kv R) (hL : Laid kv) (hz : ∀ z ∈ c, ZcOk z) (h : c[0]? = some z) (hr : oneER R z = 0) :
    apE kv (c.take 1) = 0 ∧ KR (apK kv (c.take 1)) (oneLR R z) ∧ Laid (apK kv (c.take 1)) := ap_k (k := 0) hK hL hz h rfl hr
theorem rap_k {kv : List (Int × Cl)} {R : List Cl} {t : Int} {c : List Zc} {k : Nat} {z : Zc} (ht : ¬(t < 1 ∨ t > 65536)) (hc : ¬ 32 < c.length) (hK : KR (apK kv (c.take k)) R) (hL : Laid (apK kv (c.take k))) (hz : ∀ z ∈ c, ZcOk z) (h : c[k]? = some z) (h0 : apE kv (c.take k) = 0) (hr : ¬ oneER R z = 0) :
    trE kv t c = oneER R z ∧ trI kv t c = k := by
  have he := st_eq hK hL (hz z (List.mem_of_getElem? h))
  have := ap_at h h0 (by rw [he]; exact hr)
  rw [he] at this
  exact tr_3 ht hc this hr
theorem rap_0 {kv : List (Int × Cl)} {R : List Cl} {t : Int} {c : List Zc} {z : Zc} (ht : ¬(t < 1 ∨ t > 65536)) (hc : ¬ 32 < c.length) (hK : KR kv R) (hL : Laid kv) (hz : ∀ z ∈ c, ZcOk z) (h : c[0]? = some z) (hr : ¬ oneER R z = 0) :
    trE kv t c = oneER R z ∧ trI kv t c = 0 := rap_k (k := 0) ht hc hK hL hz h rfl hr
theorem rap_e {kv : List (Int × Cl)} {R : List Cl} {t : Int} {c : List Zc} {k : Nat} (ht : ¬(t < 1 ∨ t > 65536)) (hc : ¬ 32 < c.length) (hK : KR (apK kv (c.take k)) R) (h0 : apE kv (c.take k) = 0) (hk : c.length ≤ k) :
    trE kv t c = fitE t (rlR R) ∧ trI kv t c = 0 := by
  rw [List.take_of_length_le hk] at hK h0
  rw [← kr_reals hK]; exact tr_4 ht hc h0
theorem rap_z {kv : List (Int × Cl)} {R : List Cl} {t : Int} {c : List Zc} (ht : ¬(t < 1 ∨ t > 65536)) (hc : ¬ 32 < c.length) (hK : KR kv R) (hk : c.length ≤ 0) : trE kv t c = fitE t (rlR R) ∧ trI kv t c = 0 := rap_e (k := 0) ht hc hK rfl hk
theorem rlR_okV {kv : List (Int × Cl)} {R : List Cl} (h : KR kv R) : ∀ v ∈ rlR R, CvOk v := by rw [← kr_reals h]; exact reals_okV ⟨R, h⟩
theorem rlR_ok64 {R : List Cl} (h : R.length ≤ 64) : (rlR R).length ≤ 100000 := Nat.le_trans (rlR_len _) (by omega)

theorem rap_err (kv : List (Int × Cl)) (al : Option Addr) (l : List Cl) (cl : Nat) (t : Int) (bl : Option Addr) (c : List Zc) (dl : Nat) (hl : l.length ≤ 64) (hK : KR kv l) (hL : Laid kv) (hz : ∀ z ∈ c, ZcOk z) (hno : trE kv t c ≠ 0) (w : World) (r0 : arrAt w al (V.flat encCl l)) (r1 : arrAt w bl (V.flat encZc c)) (hs : HS w (feet []) [] w) :
    Calls Tryz.prog 10 #[vS al l cl, i_ t, vS bl c dl] w fun e w' => ∃ zz, e = .returned ((fun (zz : (Option Addr) × (List Cl) × Nat) => match zz with | (al', xs', cl') => (.agg #[vS al' xs' cl', i_ (trI kv t c), i_ (trE kv t c)])) zz) ∧ (fun (zz : (Option Addr) × (List Cl) × Nat) => match zz with | (al', xs', cl') => True) zz ∧ Turn [] ((fun (zz : (Option Addr) × (List Cl) × Nat) => match zz with | (al', xs', cl') => []) zz) w w' := by
  refine calls_of (args := [vS al l cl, i_ t, vS bl c dl]) (penv [vS al l cl, i_ t, vS bl c dl]) (feet []) [] Tryz.func10 rfl rfl (look_penv _) hs ?_
  refine A.sr (A.n1 [.al] [] (fun b1 => [(6, p_ b1)]) (fun b1 => blk b1 [e_, i_ 0, i_ 0] 32) ?_)
  intro b1
  refine A.tn (A.seq (A.sr (A.g [.p, .p, .p, .o, .p, .p, .cl] [] [(16, b_ ((decide (t < 1)) || (decide (t > 65536))))] ?_)))
  refine A.tn (A.cn ((decide (t < 1)) || (decide (t > 65536))) (fun e1 => ?_) (fun e1 => ?_))
  · have p1 := e1; try simp only [nrm] at p1
    refine A.sr (A.gs [.p, .st 0] [0, 1, 2, 16] [] [(0, blk b1 [e_, i_ 0, i_ 1] 32)] [b1] ?_)
    refine A.tn (A.ret (A.tr ?_))
    obtain ⟨q1_, q2_⟩ := (tr_1 (kv := kv) (l := c) (by omega))
    refine A.ownNil 48 14 [blk b1 [e_, i_ 0, i_ 1] 32, sCl none ([] : List Cl) 0] rfl ?_
    refine A.postK [] [(.agg #[e_, i_ 0, i_ 1])] (fun aa ww rr ss => ⟨rv_cellN (vs := [e_, i_ 0, i_ 1]) rr ss rfl (by kernel_rfl) (reads_blk (i := 0) rfl rfl), trivial⟩) (none, ([] : List Cl), 0) ?_ ?_ (by kernel_rfl)
    · show ((.agg #[vS none ([] : List Cl) 0, i_ 0, i_ 1]) : Value) = (.agg #[vS none ([] : List Cl) 0, i_ (trI kv t c), i_ (trE kv t c)])
      (rw [q1_, q2_]; done)
    trivial
  have p1 := e1; try simp only [nrm] at p1
  refine A.skip (A.tn (A.seq (A.sr (A.g [.p, .p, .p] [16] [(20, b_ (decide ((c.length : Int) > 32)))] ?_))))
  refine A.tn (A.cn (decide ((c.length : Int) > 32)) (fun e2 => ?_) (fun e2 => ?_))
  · have p2 := of_decide_eq_true e2
    refine A.sr (A.gs [.p, .st 0] [0, 1, 2, 20] [] [(0, blk b1 [e_, i_ 0, i_ 2] 32)] [b1] ?_)
    refine A.tn (A.ret (A.tr ?_))
    obtain ⟨q1_, q2_⟩ := (tr_2 (kv := kv) (l := c) (t := t) (by omega) (by omega))
    refine A.ownNil 48 14 [blk b1 [e_, i_ 0, i_ 2] 32, sCl none ([] : List Cl) 0] rfl ?_
    refine A.postK [] [(.agg #[e_, i_ 0, i_ 2])] (fun aa ww rr ss => ⟨rv_cellN (vs := [e_, i_ 0, i_ 2]) rr ss rfl (by kernel_rfl) (reads_blk (i := 0) rfl rfl), trivial⟩) (none, ([] : List Cl), 0) ?_ ?_ (by kernel_rfl)
    · show ((.agg #[vS none ([] : List Cl) 0, i_ 0, i_ 2]) : Value) = (.agg #[vS none ([] : List Cl) 0, i_ (trI kv t c), i_ (trE kv t c)])
      (rw [q1_, q2_]; done)
    trivial
  have p2 := of_decide_eq_false e2
  refine A.skip (tsr (A.g [.p, .p] [0, 20] [(7, vS al l cl)] ?_))
  refine A.tn (A.seq (A.sr (A.g [.p, .p, .p] [2] [(23, vS bl c dl), (24, c_ c.length), (25, i_ 0)] ?_)))
  refine A.tn (A.block (A.peel ?_))
  refine A.sr (A.g [.p] [] [(26, b_ (decide ((0 : Int) < (c.length : Int))))] ?_)
  refine A.tn (A.seq (A.cn (decide ((0 : Int) < (c.length : Int))) (fun e3 => ?_) (fun e3 => ?_)))
  · have p3 := of_decide_eq_true e3
    refine A.skip (A.tn (A.seq (A.block (A.sr (A.gpk [.p, .ix] [26] [(27, i_ 0), (28, (.pointer (some ((at0 bl).add (0 * 15)))))] [] (fun κ => κ.ix bl c.length (0 : Int) ∧ True) ⟨(ixOf encZc_len (by decide) (rd_old r1 (by simp [feet])) (by (simp; omega))), trivial⟩ ?_)))))
    obtain ⟨x4, hx4⟩ : ∃ x, (c)[0]? = some x := ⟨_, List.getElem?_eq_getElem (by omega)⟩
    refine A.goA1 [.rd (encZc x4), .al, .p, .st 1] [1, 6, 7, 23, 24, 25, 9, 8] (fun b5 => [(1, i_ t), (6, p_ b1), (7, vS al l cl), (23, vS bl c dl), (24, c_ c.length), (25, i_ 0), (9, p_ b5), (8, i_ 0)]) (fun b5 => [blk b1 [e_, i_ 0, i_ 0] 32, blk b5 (encZc x4) 50]) (fun b5 => [b5]) (fun _ => (fun κ => κ.rd ((at0 bl).add (0 * 15)) (encZc x4) ∧ True)) (fun _ => by kernel_rfl) (fun b5 => ⟨(reads_at0 (vs := (encZc x4)) encZc_len (rd_old r1 (by simp [feet])) hx4 (Nat.le_of_ble_eq_true rfl) rfl), trivial⟩) ?_
    intro b5
    refine A.tn (A.seq ?_)
    by_cases hr : oneER l x4 = 0
    · refine A.region (A.gpk [.p, .ld 1] [7, 9] [(30, vS al l cl), (31, (.agg (encZc x4).toArray))] [b5] T0 trivial ?_)
      refine A.cons (A.cT (some 32) [vS al l cl, (.agg (encZc x4).toArray)] [] ((fun zz => match zz with | (al'6, cl'7) => (.agg #[vS al'6 (oneLR l x4) cl'7, i_ 0]))) ((fun zz => match zz with | (al'6, cl'7) => True)) ((fun zz => match zz with | (al'6, cl'7) => [sCl al'6 (oneLR l x4) cl'7])) (fun ww ss hh => rone_ok al l cl x4 (by omega) (by assumption) ww ((rd_old r0 (by simp [feet])) ww ss) hh) ?_)
      rintro ⟨al'6, cl'7⟩ -
      refine A.g1 [.al, .st 3] [30, 31, 32] (fun b9 => [(10, p_ b9)]) (fun b9 => []) (fun b9 => blk b9 [vS al'6 (oneLR l x4) cl'7, i_ 0] 56) (fun b9 => [b9]) ?_
      intro b9
      refine A.tn (A.seq (A.sr (A.gk [.p, .ld 3, .p] [] [(35, b_ false)] [b9] T0 trivial ?_)))
      refine A.tn (A.cf (A.skip (tr (A.gk [.p, .ld 3, .p] [8, 10, 35] [(7, vS al'6 (oneLR l x4) cl'7)] [b9] T0 trivial ?_))))
      refine A.bn (tr (A.g [.p, .p] [] [(25, i_ 1)] ?_))
      refine A.tn (A.loopH (fun (zz : Nat × (List Cl) × (Option Addr) × Nat) => match zz with | (k, R, ao, co) => [(1, i_ t), (6, p_ b1), (23, vS bl c dl), (24, c_ c.length), (25, c_ k), (7, vS ao R co)]) (fun (zz : Nat × (List Cl) × (Option Addr) × Nat) => match zz with | (k, R, ao, co) => [sCl ao R co, blk b1 [e_, i_ 0, i_ 0] 32, blk b5 (encZc x4) 50, blk b9 [vS al'6 (oneLR l x4) cl'7, i_ 0] 56]) (fun (zz : Nat × (List Cl) × (Option Addr) × Nat) => match zz with | (k, R, ao, co) => (1 ≤ k ∧ k ≤ c.length) ∧ (R = apR l (c.take k)) ∧ (apE kv (c.take k) = 0) ∧ (KR (apK kv (c.take k)) R) ∧ (Laid (apK kv (c.take k)))) (fun (zz : Nat × (List Cl) × (Option Addr) × Nat) => match zz with | (k, R, ao, co) => c.length - k) (1, oneLR l x4, al'6, cl'7) ⟨(by omega), (by exact (apR_0 (by assumption)).symm), (by exact (ap_0 hK hL hz (by assumption) hr).1), (by exact (ap_0 hK hL hz (by assumption) hr).2.1), (by exact (ap_0 hK hL hz (by assumption) hr).2.2)⟩ ?_ ?_)
      · exact A.hK [0, 0, 0, 0]
      rintro ⟨k, R, ao, co⟩ ⟨hk, hw, h0, hKw, hLw⟩
      have hRl : R.length ≤ 64 := by have h1_ := kr_len hKw; have h2_ := hLw.len; omega
      refine A.sr (A.g [.p] [] [(26, b_ (decide ((k : Int) < (c.length : Int))))] ?_)
      refine A.tn (A.seq (A.cn (decide ((k : Int) < (c.length : Int))) (fun e5 => ?_) (fun e5 => ?_)))
      · have p5 := of_decide_eq_true e5
        refine A.skip (A.tn (A.seq (A.block (A.sr (A.gpk [.p, .ix] [26] [(27, c_ k), (28, (.pointer (some ((at0 bl).add (k * 15)))))] [] (fun κ => κ.ix bl c.length (k : Int) ∧ True) ⟨(ixOf encZc_len (by decide) (rd_old r1 (by simp [feet])) (by omega)), trivial⟩ ?_)))))
        obtain ⟨x10, hx10⟩ : ∃ x, (c)[k]? = some x := ⟨_, List.getElem?_eq_getElem (by omega)⟩
        refine A.goA1 [.rd (encZc x10), .al, .p, .st 4] [1, 6, 23, 24, 25, 7, 9, 8] (fun b11 => [(1, i_ t), (6, p_ b1), (23, vS bl c dl), (24, c_ c.length), (25, c_ k), (7, vS ao R co), (9, p_ b11), (8, c_ k)]) (fun b11 => [sCl ao R co, blk b1 [e_, i_ 0, i_ 0] 32, blk b5 (encZc x4) 50, blk b9 [vS al'6 (oneLR l x4) cl'7, i_ 0] 56, blk b11 (encZc x10) 50]) (fun b11 => [b11]) (fun _ => (fun κ => κ.rd ((at0 bl).add (k * 15)) (encZc x10) ∧ True)) (fun _ => by kernel_rfl) (fun b11 => ⟨(reads_at0 (vs := (encZc x10)) encZc_len (rd_old r1 (by simp [feet])) hx10 (Nat.le_of_ble_eq_true rfl) rfl), trivial⟩) ?_
        intro b11
        refine A.tn (A.seq ?_)
        by_cases hr2 : oneER R x10 = 0
        · refine A.region (A.gpk [.p, .ld 4] [7, 9] [(30, vS ao R co), (31, (.agg (encZc x10).toArray))] [b11] T0 trivial ?_)
          refine A.cons (A.cT (some 32) [vS ao R co, (.agg (encZc x10).toArray)] [] ((fun zz => match zz with | (al'12, cl'13) => (.agg #[vS al'12 (oneLR R x10) cl'13, i_ 0]))) ((fun zz => match zz with | (al'12, cl'13) => True)) ((fun zz => match zz with | (al'12, cl'13) => [sCl al'12 (oneLR R x10) cl'13])) (fun ww ss hh => rone_ok ao R co x10 (by omega) (by assumption) ww ((rd_sl (i := 0) rfl) ww ss) hh) ?_)
          rintro ⟨al'12, cl'13⟩ -
          refine A.g1 [.al, .st 6] [30, 31, 32] (fun b15 => [(10, p_ b15)]) (fun b15 => []) (fun b15 => blk b15 [vS al'12 (oneLR R x10) cl'13, i_ 0] 56) (fun b15 => [b15]) ?_
          intro b15
          refine A.tn (A.seq (A.sr (A.gk [.p, .ld 6, .p] [] [(35, b_ false)] [b15] T0 trivial ?_)))
          refine A.tn (A.cf (A.skip (tr (A.gk [.p, .ld 6, .p] [8, 10, 35] [(7, vS al'12 (oneLR R x10) cl'13)] [b15] T0 trivial ?_))))
          refine A.bn (tr (A.gk [.w ((k : Int) + 1), .p] [] [(25, i_ ((k : Int) + 1))] [] (fun κ => (IntKind.i64.wrap ((k : Int) + 1) = ((k : Int) + 1)) ∧ True) ⟨(wrap_i64 (e := (k : Int) + 1) (by constructor <;> omega)), trivial⟩ ?_))
          refine A.tn (A.next (k + 1, oneLR R x10, al'12, cl'13) ⟨(by omega), (by (rw [hw]; exact (apR_snoc (by assumption)).symm)), (by exact (ap_k hKw hLw hz (by assumption) h0 hr2).1), (by exact (ap_k hKw hLw hz (by assumption) h0 hr2).2.1), (by exact (ap_k hKw hLw hz (by assumption) h0 hr2).2.2)⟩ (by (show c.length - (k + 1) < c.length - k; omega)) ?_)
          exact A.hK [0, 1, 1, 1]
        refine A.region (A.gpk [.p, .ld 4] [7, 9] [(30, vS ao R co), (31, (.agg (encZc x10).toArray))] [b11] T0 trivial ?_)
        refine A.cons (A.cT (some 32) [vS ao R co, (.agg (encZc x10).toArray)] [] ((fun _ => (.agg #[vS ao R co, i_ (oneER R x10)]))) ((fun _ => True)) ((fun _ => [])) (fun ww ss hh => rone_no ao R co x10 (by omega) (by assumption) ww ((rd_sl (i := 0) rfl) ww ss) hh) ?_)
        rintro ⟨⟩ -
        refine A.g1 [.al, .st 5] [30, 31, 32] (fun b16 => [(10, p_ b16)]) (fun b16 => []) (fun b16 => blk b16 [vS ao R co, i_ (oneER R x10)] 56) (fun b16 => [b16]) ?_
        intro b16
        refine A.tn (A.seq (A.sr (A.gk [.p, .ld 5, .p] [] [(35, b_ ((oneER R x10) != 0))] [b16] T0 trivial ?_)))
        refine A.tn (A.cn ((oneER R x10) != 0) (fun e8 => ?_) (fun e8 => ?_))
        · have p8 := e8; try simp only [nrm] at p8
          refine A.sr (A.gs [.p, .p, .ld 5, .p, .st 1] [1, 23, 24, 25, 8, 10, 35] [] [(1, blk b1 [e_, c_ k, i_ (oneER R x10)] 32)] [b16, b1] ?_)
          refine A.tn (A.ret (A.tr (A.br (A.tr (A.tr (A.br (A.tr ?_)))))))
          obtain ⟨q1_, q2_⟩ := (rap_k (t := t) (c := c) (by omega) (by omega) hKw hLw hz (by assumption) h0 hr2)
          refine A.ownNil 48 14 [sCl ao R co, blk b1 [e_, c_ k, i_ (oneER R x10)] 32, blk b5 (encZc x4) 50, blk b9 [vS al'6 (oneLR l x4) cl'7, i_ 0] 56, blk b11 (encZc x10) 50, blk b16 [vS ao R co, i_ (oneER R x10)] 56, sCl none ([] : List Cl) 0] rfl ?_
          refine A.postK [] [(.agg #[e_, c_ k, i_ (oneER R x10)])] (fun aa ww rr ss => ⟨rv_cellN (vs := [e_, c_ k, i_ (oneER R x10)]) rr ss rfl (by kernel_rfl) (reads_blk (i := 1) rfl rfl), trivial⟩) (none, ([] : List Cl), 0) ?_ ?_ (by kernel_rfl)
          · show ((.agg #[vS none ([] : List Cl) 0, c_ k, i_ (oneER R x10)]) : Value) = (.agg #[vS none ([] : List Cl) 0, i_ (trI kv t c), i_ (trE kv t c)])
            (rw [q1_, q2_]; done)
          trivial
        exact absurd e8 (by (intro h_; simp at h_; exact absurd h_ (by assumption)))
      have p5 := of_decide_eq_false e5
      refine A.exit (A.te (A.te (A.bh (tsr (A.gp [.p, .p, .p] [1, 23, 24, 25, 7, 26] [(43, vS ao R co), (44, i_ t), (45, vS ao R co)] ?_)))))
      refine A.cons (A.cT (some 46) [vS ao R co] [] ((fun zz => match zz with | (al'18, cl'19) => (vS al'18 (rlR R) cl'19))) ((fun zz => match zz with | (al'18, cl'19) => True)) ((fun zz => match zz with | (al'18, cl'19) => [sCv al'18 (rlR R) cl'19])) (fun ww ss hh => rlR_spec ao R co (by omega) ww ((rd_sl (i := 0) rfl) ww ss) hh) ?_)
      rintro ⟨al'18, cl'19⟩ -
      refine A.gsk [.cq (i_ (fitE t (rlR R))), .p, .st 2] [43, 44, 45, 46] [] [(2, blk b1 [vS ao R co, i_ 0, i_ (fitE t (rlR R))] 32)] [b1] (fun κ => κ.call 27 [i_ t, vS al'18 (rlR R) cl'19] (i_ (fitE t (rlR R))) ∧ True) ⟨(fun ww ss => rfits_spec t al'18 (rlR R) cl'19 (by exact Nat.le_trans (rlR_len _) (by omega)) (by exact rlR_okV (by assumption)) ww ((rd_sl (i := 0) rfl) ww ss)), trivial⟩ ?_
      refine A.tn (A.ret ?_)
      obtain ⟨q1_, q2_⟩ := (rap_e (t := t) (c := c) (by omega) (by omega) hKw h0 (by omega))
      refine A.postK [] [(.agg #[vS ao R co, i_ 0, i_ (fitE t (rlR R))])] (fun aa ww rr ss => ⟨rv_cellN (vs := [vS ao R co, i_ 0, i_ (fitE t (rlR R))]) rr ss rfl (by kernel_rfl) (reads_blk (i := 2) rfl rfl), trivial⟩) (ao, R, co) ?_ ?_ (by kernel_rfl)
      · show ((.agg #[vS ao R co, i_ 0, i_ (fitE t (rlR R))]) : Value) = (.agg #[vS ao R co, i_ (trI kv t c), i_ (trE kv t c)])
        (rw [q1_, q2_]; done)
      trivial
    refine A.region (A.gpk [.p, .ld 1] [7, 9] [(30, vS al l cl), (31, (.agg (encZc x4).toArray))] [b5] T0 trivial ?_)
    refine A.cons (A.cT (some 32) [vS al l cl, (.agg (encZc x4).toArray)] [] ((fun _ => (.agg #[vS al l cl, i_ (oneER l x4)]))) ((fun _ => True)) ((fun _ => [])) (fun ww ss hh => rone_no al l cl x4 (by omega) (by assumption) ww ((rd_old r0 (by simp [feet])) ww ss) hh) ?_)
    rintro ⟨⟩ -
    refine A.g1 [.al, .st 2] [30, 31, 32] (fun b21 => [(10, p_ b21)]) (fun b21 => []) (fun b21 => blk b21 [vS al l cl, i_ (oneER l x4)] 56) (fun b21 => [b21]) ?_
    intro b21
    refine A.tn (A.seq (A.sr (A.gk [.p, .ld 2, .p] [] [(35, b_ ((oneER l x4) != 0))] [b21] T0 trivial ?_)))
    refine A.tn (A.cn ((oneER l x4) != 0) (fun e11 => ?_) (fun e11 => ?_))
    · have p11 := e11; try simp only [nrm] at p11
      refine A.sr (A.gs [.p, .p, .ld 2, .p, .st 0] [1, 23, 24, 25, 8, 10, 35] [] [(0, blk b1 [e_, i_ 0, i_ (oneER l x4)] 32)] [b21, b1] ?_)
      refine A.tn (A.ret (A.tr (A.br (A.tr (A.tr (A.br (A.tr ?_)))))))
      obtain ⟨q1_, q2_⟩ := (rap_0 (t := t) (c := c) (by omega) (by omega) hK hL hz (by assumption) hr)
      refine A.ownNil 48 14 [blk b1 [e_, i_ 0, i_ (oneER l x4)] 32, blk b5 (encZc x4) 50, blk b21 [vS al l cl, i_ (oneER l x4)] 56, sCl none ([] : List Cl) 0] rfl ?_
      refine A.postK [] [(.agg #[e_, i_ 0, i_ (oneER l x4)])] (fun aa ww rr ss => ⟨rv_cellN (vs := [e_, i_ 0, i_ (oneER l x4)]) rr ss rfl (by kernel_rfl) (reads_blk (i := 0) rfl rfl), trivial⟩) (none, ([] : List Cl), 0) ?_ ?_ (by kernel_rfl)
      · show ((.agg #[vS none ([] : List Cl) 0, i_ 0, i_ (oneER l x4)]) : Value) = (.agg #[vS none ([] : List Cl) 0, i_ (trI kv t c), i_ (trE kv t c)])
        (rw [q1_, q2_]; done)
      trivial
    exact absurd e11 (by (intro h_; simp at h_; exact absurd h_ (by assumption)))
  have p3 := of_decide_eq_false e3
  refine A.exit (A.te (A.te (A.bh (tsr (A.gp [.p, .p, .p] [1, 7, 23, 24, 25, 26] [(43, vS al l cl), (44, i_ t), (45, vS al l cl)] ?_)))))
  refine A.cons (A.cT (some 46) [vS al l cl] [] ((fun zz => match zz with | (al'23, cl'24) => (vS al'23 (rlR l) cl'24))) ((fun zz => match zz with | (al'23, cl'24) => True)) ((fun zz => match zz with | (al'23, cl'24) => [sCv al'23 (rlR l) cl'24])) (fun ww ss hh => rlR_spec al l cl (by omega) ww ((rd_old r0 (by simp [feet])) ww ss) hh) ?_)
  rintro ⟨al'23, cl'24⟩ -
  refine A.gsk [.cq (i_ (fitE t (rlR l))), .p, .st 1] [43, 44, 45, 46] [] [(1, blk b1 [vS al l cl, i_ 0, i_ (fitE t (rlR l))] 32)] [b1] (fun κ => κ.call 27 [i_ t, vS al'23 (rlR l) cl'24] (i_ (fitE t (rlR l))) ∧ True) ⟨(fun ww ss => rfits_spec t al'23 (rlR l) cl'24 (by exact Nat.le_trans (rlR_len _) (by omega)) (by exact rlR_okV (by assumption)) ww ((rd_sl (i := 0) rfl) ww ss)), trivial⟩ ?_
  refine A.tn (A.ret ?_)
  obtain ⟨q1_, q2_⟩ := (rap_z (t := t) (c := c) (by omega) (by omega) hK (by omega))
  refine A.postK [] [(.agg #[vS al l cl, i_ 0, i_ (fitE t (rlR l))])] (fun aa ww rr ss => ⟨rv_cellN (vs := [vS al l cl, i_ 0, i_ (fitE t (rlR l))]) rr ss rfl (by kernel_rfl) (reads_blk (i := 1) rfl rfl), trivial⟩) (al, l, cl) ?_ ?_ (by kernel_rfl)
  · show ((.agg #[vS al l cl, i_ 0, i_ (fitE t (rlR l))]) : Value) = (.agg #[vS al l cl, i_ (trI kv t c), i_ (trE kv t c)])
    (rw [q1_, q2_]; done)
  trivial

theorem rap_nil (kv : List (Int × Cl)) (al : Option Addr) (l : List Cl) (cl : Nat) (t : Int) (bl : Option Addr) (c : List Zc) (dl : Nat) (hl : l.length ≤ 64) (hK : KR kv l) (hL : Laid kv) (hz : ∀ z ∈ c, ZcOk z) (hok : trE kv t c = 0) (hc : c = []) (w : World) (r0 : arrAt w al (V.flat encCl l)) (r1 : arrAt w bl (V.flat encZc c)) (hs : HS w (feet []) [] w) :
    Calls Tryz.prog 10 #[vS al l cl, i_ t, vS bl c dl] w fun e w' => ∃ zz, e = .returned ((fun (zz : Unit) => (.agg #[vS al l cl, i_ 0, i_ 0])) zz) ∧ (fun (zz : Unit) => True) zz ∧ Turn [] ((fun (zz : Unit) => []) zz) w w' := by
  refine calls_of (args := [vS al l cl, i_ t, vS bl c dl]) (penv [vS al l cl, i_ t, vS bl c dl]) (feet []) [] Tryz.func10 rfl rfl (look_penv _) hs ?_
  refine A.sr (A.n1 [.al] [] (fun b1 => [(6, p_ b1)]) (fun b1 => blk b1 [e_, i_ 0, i_ 0] 32) ?_)
  intro b1
  refine A.tn (A.seq (A.sr (A.g [.p, .p, .p, .o, .p, .p, .cl] [] [(16, b_ ((decide (t < 1)) || (decide (t > 65536))))] ?_)))
  refine A.tn (A.cn ((decide (t < 1)) || (decide (t > 65536))) (fun e1 => ?_) (fun e1 => ?_))
  · have p1 := e1; try simp only [nrm] at p1
    refine A.sr (A.gs [.p, .st 0] [0, 1, 2, 16] [] [(0, blk b1 [e_, i_ 0, i_ 1] 32)] [b1] ?_)
    refine A.tn (A.ret (A.tr ?_))
    obtain ⟨q1_, q2_⟩ := (tr_1 (kv := kv) (l := c) (by omega))
    exact absurd (q1_.symm.trans hok) (by decide)
  have p1 := e1; try simp only [nrm] at p1
  refine A.skip (A.tn (A.seq (A.sr (A.g [.p, .p, .p] [16] [(20, b_ (decide ((c.length : Int) > 32)))] ?_))))
  refine A.tn (A.cn (decide ((c.length : Int) > 32)) (fun e2 => ?_) (fun e2 => ?_))
  · have p2 := of_decide_eq_true e2
    refine A.sr (A.gs [.p, .st 0] [0, 1, 2, 20] [] [(0, blk b1 [e_, i_ 0, i_ 2] 32)] [b1] ?_)
    refine A.tn (A.ret (A.tr ?_))
    obtain ⟨q1_, q2_⟩ := (tr_2 (kv := kv) (l := c) (t := t) (by omega) (by omega))
    exact absurd (q1_.symm.trans hok) (by decide)
  have p2 := of_decide_eq_false e2
  refine A.skip (tsr (A.g [.p, .p] [0, 20] [(7, vS al l cl)] ?_))
  refine A.tn (A.seq (A.sr (A.g [.p, .p, .p] [2] [(23, vS bl c dl), (24, c_ c.length), (25, i_ 0)] ?_)))
  refine A.tn (A.block (A.peel ?_))
  refine A.sr (A.g [.p] [] [(26, b_ (decide ((0 : Int) < (c.length : Int))))] ?_)
  refine A.tn (A.seq (A.cn (decide ((0 : Int) < (c.length : Int))) (fun e3 => ?_) (fun e3 => ?_)))
  · exact absurd e3 (by (intro h_; subst hc; simp at h_))
  have p3 := of_decide_eq_false e3
  refine A.exit (A.te (A.te (A.bh (tsr (A.gp [.p, .p, .p] [1, 7, 23, 24, 25, 26] [(43, vS al l cl), (44, i_ t), (45, vS al l cl)] ?_)))))
  refine A.cons (A.cT (some 46) [vS al l cl] [] ((fun zz => match zz with | (al'2, cl'3) => (vS al'2 (rlR l) cl'3))) ((fun zz => match zz with | (al'2, cl'3) => True)) ((fun zz => match zz with | (al'2, cl'3) => [sCv al'2 (rlR l) cl'3])) (fun ww ss hh => rlR_spec al l cl (by omega) ww ((rd_old r0 (by simp [feet])) ww ss) hh) ?_)
  rintro ⟨al'2, cl'3⟩ -
  refine A.gsk [.cq (i_ (fitE t (rlR l))), .p, .st 1] [43, 44, 45, 46] [] [(1, blk b1 [vS al l cl, i_ 0, i_ (fitE t (rlR l))] 32)] [b1] (fun κ => κ.call 27 [i_ t, vS al'2 (rlR l) cl'3] (i_ (fitE t (rlR l))) ∧ True) ⟨(fun ww ss => rfits_spec t al'2 (rlR l) cl'3 (by exact Nat.le_trans (rlR_len _) (by omega)) (by exact rlR_okV (by assumption)) ww ((rd_sl (i := 0) rfl) ww ss)), trivial⟩ ?_
  refine A.tn (A.ret ?_)
  obtain ⟨q1_, q2_⟩ := (rap_z (t := t) (c := c) (by omega) (by omega) hK (by omega))
  rw [q1_] at hok
  refine A.postK [] [(.agg #[vS al l cl, i_ 0, i_ (fitE t (rlR l))])] (fun aa ww rr ss => ⟨rv_cellN (vs := [vS al l cl, i_ 0, i_ (fitE t (rlR l))]) rr ss rfl (by kernel_rfl) (reads_blk (i := 1) rfl rfl), trivial⟩) () ?_ ?_ (by kernel_rfl)
  · show ((.agg #[vS al l cl, i_ 0, i_ (fitE t (rlR l))]) : Value) = (.agg #[vS al l cl, i_ 0, i_ 0])
    (rw [hok]; done)
  trivial

theorem rap_ok (kv : List (Int × Cl)) (al : Option Addr) (l : List Cl) (cl : Nat) (t : Int) (bl : Option Addr) (c : List Zc) (dl : Nat) (hl : l.length ≤ 64) (hK : KR kv l) (hL : Laid kv) (hz : ∀ z ∈ c, ZcOk z) (hok : trE kv t c = 0) (hc : c ≠ []) (w : World) (r0 : arrAt w al (V.flat encCl l)) (r1 : arrAt w bl (V.flat encZc c)) (hs : HS w (feet []) [] w) :
    Calls Tryz.prog 10 #[vS al l cl, i_ t, vS bl c dl] w fun e w' => ∃ zz, e = .returned ((fun (zz : (Option Addr) × Nat) => match zz with | (al', cl') => (.agg #[vS al' (apR l c) cl', i_ 0, i_ 0])) zz) ∧ (fun (zz : (Option Addr) × Nat) => match zz with | (al', cl') => True) zz ∧ Turn [] ((fun (zz : (Option Addr) × Nat) => match zz with | (al', cl') => [sCl al' (apR l c) cl']) zz) w w' := by
  refine calls_of (args := [vS al l cl, i_ t, vS bl c dl]) (penv [vS al l cl, i_ t, vS bl c dl]) (feet []) [] Tryz.func10 rfl rfl (look_penv _) hs ?_
  refine A.sr (A.n1 [.al] [] (fun b1 => [(6, p_ b1)]) (fun b1 => blk b1 [e_, i_ 0, i_ 0] 32) ?_)
  intro b1
  refine A.tn (A.seq (A.sr (A.g [.p, .p, .p, .o, .p, .p, .cl] [] [(16, b_ ((decide (t < 1)) || (decide (t > 65536))))] ?_)))
  refine A.tn (A.cn ((decide (t < 1)) || (decide (t > 65536))) (fun e1 => ?_) (fun e1 => ?_))
  · have p1 := e1; try simp only [nrm] at p1
    refine A.sr (A.gs [.p, .st 0] [0, 1, 2, 16] [] [(0, blk b1 [e_, i_ 0, i_ 1] 32)] [b1] ?_)
    refine A.tn (A.ret (A.tr ?_))
    obtain ⟨q1_, q2_⟩ := (tr_1 (kv := kv) (l := c) (by omega))
    exact absurd (q1_.symm.trans hok) (by decide)
  have p1 := e1; try simp only [nrm] at p1
  refine A.skip (A.tn (A.seq (A.sr (A.g [.p, .p, .p] [16] [(20, b_ (decide ((c.length : Int) > 32)))] ?_))))
  refine A.tn (A.cn (decide ((c.length : Int) > 32)) (fun e2 => ?_) (fun e2 => ?_))
  · have p2 := of_decide_eq_true e2
    refine A.sr (A.gs [.p, .st 0] [0, 1, 2, 20] [] [(0, blk b1 [e_, i_ 0, i_ 2] 32)] [b1] ?_)
    refine A.tn (A.ret (A.tr ?_))
    obtain ⟨q1_, q2_⟩ := (tr_2 (kv := kv) (l := c) (t := t) (by omega) (by omega))
    exact absurd (q1_.symm.trans hok) (by decide)
  have p2 := of_decide_eq_false e2
  refine A.skip (tsr (A.g [.p, .p] [0, 20] [(7, vS al l cl)] ?_))
  refine A.tn (A.seq (A.sr (A.g [.p, .p, .p] [2] [(23, vS bl c dl), (24, c_ c.length), (25, i_ 0)] ?_)))
  refine A.tn (A.block (A.peel ?_))
  refine A.sr (A.g [.p] [] [(26, b_ (decide ((0 : Int) < (c.length : Int))))] ?_)
  refine A.tn (A.seq (A.cn (decide ((0 : Int) < (c.length : Int))) (fun e3 => ?_) (fun e3 => ?_)))
  · have p3 := of_decide_eq_true e3
    refine A.skip (A.tn (A.seq (A.block (A.sr (A.gpk [.p, .ix] [26] [(27, i_ 0), (28, (.pointer (some ((at0 bl).add (0 * 15)))))] [] (fun κ => κ.ix bl c.length (0 : Int) ∧ True) ⟨(ixOf encZc_len (by decide) (rd_old r1 (by simp [feet])) (by (simp; omega))), trivial⟩ ?_)))))
    obtain ⟨x2, hx2⟩ : ∃ x, (c)[0]? = some x := ⟨_, List.getElem?_eq_getElem (by omega)⟩
    refine A.goA1 [.rd (encZc x2), .al, .p, .st 1] [1, 6, 7, 23, 24, 25, 9, 8] (fun b3 => [(1, i_ t), (6, p_ b1), (7, vS al l cl), (23, vS bl c dl), (24, c_ c.length), (25, i_ 0), (9, p_ b3), (8, i_ 0)]) (fun b3 => [blk b1 [e_, i_ 0, i_ 0] 32, blk b3 (encZc x2) 50]) (fun b3 => [b3]) (fun _ => (fun κ => κ.rd ((at0 bl).add (0 * 15)) (encZc x2) ∧ True)) (fun _ => by kernel_rfl) (fun b3 => ⟨(reads_at0 (vs := (encZc x2)) encZc_len (rd_old r1 (by simp [feet])) hx2 (Nat.le_of_ble_eq_true rfl) rfl), trivial⟩) ?_
    intro b3
    refine A.tn (A.seq ?_)
    by_cases hr : oneER l x2 = 0
    · refine A.region (A.gpk [.p, .ld 1] [7, 9] [(30, vS al l cl), (31, (.agg (encZc x2).toArray))] [b3] T0 trivial ?_)
      refine A.cons (A.cT (some 32) [vS al l cl, (.agg (encZc x2).toArray)] [] ((fun zz => match zz with | (al'4, cl'5) => (.agg #[vS al'4 (oneLR l x2) cl'5, i_ 0]))) ((fun zz => match zz with | (al'4, cl'5) => True)) ((fun zz => match zz with | (al'4, cl'5) => [sCl al'4 (oneLR l x2) cl'5])) (fun ww ss hh => rone_ok al l cl x2 (by omega) (by assumption) ww ((rd_old r0 (by simp [feet])) ww ss) hh) ?_)
      rintro ⟨al'4, cl'5⟩ -
      refine A.g1 [.al, .st 3] [30, 31, 32] (fun b7 => [(10, p_ b7)]) (fun b7 => []) (fun b7 => blk b7 [vS al'4 (oneLR l x2) cl'5, i_ 0] 56) (fun b7 => [b7]) ?_
      intro b7
      refine A.tn (A.seq (A.sr (A.gk [.p, .ld 3, .p] [] [(35, b_ false)] [b7] T0 trivial ?_)))
      refine A.tn (A.cf (A.skip (tr (A.gk [.p, .ld 3, .p] [8, 10, 35] [(7, vS al'4 (oneLR l x2) cl'5)] [b7] T0 trivial ?_))))
      refine A.bn (tr (A.g [.p, .p] [] [(25, i_ 1)] ?_))
      refine A.tn (A.loopH (fun (zz : Nat × (List Cl) × (Option Addr) × Nat) => match zz with | (k, R, ao, co) => [(1, i_ t), (6, p_ b1), (23, vS bl c dl), (24, c_ c.length), (25, c_ k), (7, vS ao R co)]) (fun (zz : Nat × (List Cl) × (Option Addr) × Nat) => match zz with | (k, R, ao, co) => [sCl ao R co, blk b1 [e_, i_ 0, i_ 0] 32, blk b3 (encZc x2) 50, blk b7 [vS al'4 (oneLR l x2) cl'5, i_ 0] 56]) (fun (zz : Nat × (List Cl) × (Option Addr) × Nat) => match zz with | (k, R, ao, co) => (1 ≤ k ∧ k ≤ c.length) ∧ (R = apR l (c.take k)) ∧ (apE kv (c.take k) = 0) ∧ (KR (apK kv (c.take k)) R) ∧ (Laid (apK kv (c.take k)))) (fun (zz : Nat × (List Cl) × (Option Addr) × Nat) => match zz with | (k, R, ao, co) => c.length - k) (1, oneLR l x2, al'4, cl'5) ⟨(by omega), (by exact (apR_0 (by assumption)).symm), (by exact (ap_0 hK hL hz (by assumption) hr).1), (by exact (ap_0 hK hL hz (by assumption) hr).2.1), (by exact (ap_0 hK hL hz (by assumption) hr).2.2)⟩ ?_ ?_)
      · exact A.hK [0, 0, 0, 0]
      rintro ⟨k, R, ao, co⟩ ⟨hk, hw, h0, hKw, hLw⟩
      have hRl : R.length ≤ 64 := by have h1_ := kr_len hKw; have h2_ := hLw.len; omega
      refine A.sr (A.g [.p] [] [(26, b_ (decide ((k : Int) < (c.length : Int))))] ?_)
      refine A.tn (A.seq (A.cn (decide ((k : Int) < (c.length : Int))) (fun e5 => ?_) (fun e5 => ?_)))
      · have p5 := of_decide_eq_true e5
        refine A.skip (A.tn (A.seq (A.block (A.sr (A.gpk [.p, .ix] [26] [(27, c_ k), (28, (.pointer (some ((at0 bl).add (k * 15)))))] [] (fun κ => κ.ix bl c.length (k : Int) ∧ True) ⟨(ixOf encZc_len (by decide) (rd_old r1 (by simp [feet])) (by omega)), trivial⟩ ?_)))))
        obtain ⟨x8, hx8⟩ : ∃ x, (c)[k]? = some x := ⟨_, List.getElem?_eq_getElem (by omega)⟩
        refine A.goA1 [.rd (encZc x8), .al, .p, .st 4] [1, 6, 23, 24, 25, 7, 9, 8] (fun b9 => [(1, i_ t), (6, p_ b1), (23, vS bl c dl), (24, c_ c.length), (25, c_ k), (7, vS ao R co), (9, p_ b9), (8, c_ k)]) (fun b9 => [sCl ao R co, blk b1 [e_, i_ 0, i_ 0] 32, blk b3 (encZc x2) 50, blk b7 [vS al'4 (oneLR l x2) cl'5, i_ 0] 56, blk b9 (encZc x8) 50]) (fun b9 => [b9]) (fun _ => (fun κ => κ.rd ((at0 bl).add (k * 15)) (encZc x8) ∧ True)) (fun _ => by kernel_rfl) (fun b9 => ⟨(reads_at0 (vs := (encZc x8)) encZc_len (rd_old r1 (by simp [feet])) hx8 (Nat.le_of_ble_eq_true rfl) rfl), trivial⟩) ?_
        intro b9
        refine A.tn (A.seq ?_)
        by_cases hr2 : oneER R x8 = 0
        · refine A.region (A.gpk [.p, .ld 4] [7, 9] [(30, vS ao R co), (31, (.agg (encZc x8).toArray))] [b9] T0 trivial ?_)
          refine A.cons (A.cT (some 32) [vS ao R co, (.agg (encZc x8).toArray)] [] ((fun zz => match zz with | (al'10, cl'11) => (.agg #[vS al'10 (oneLR R x8) cl'11, i_ 0]))) ((fun zz => match zz with | (al'10, cl'11) => True)) ((fun zz => match zz with | (al'10, cl'11) => [sCl al'10 (oneLR R x8) cl'11])) (fun ww ss hh => rone_ok ao R co x8 (by omega) (by assumption) ww ((rd_sl (i := 0) rfl) ww ss) hh) ?_)
          rintro ⟨al'10, cl'11⟩ -
          refine A.g1 [.al, .st 6] [30, 31, 32] (fun b13 => [(10, p_ b13)]) (fun b13 => []) (fun b13 => blk b13 [vS al'10 (oneLR R x8) cl'11, i_ 0] 56) (fun b13 => [b13]) ?_
          intro b13
          refine A.tn (A.seq (A.sr (A.gk [.p, .ld 6, .p] [] [(35, b_ false)] [b13] T0 trivial ?_)))
          refine A.tn (A.cf (A.skip (tr (A.gk [.p, .ld 6, .p] [8, 10, 35] [(7, vS al'10 (oneLR R x8) cl'11)] [b13] T0 trivial ?_))))
          refine A.bn (tr (A.gk [.w ((k : Int) + 1), .p] [] [(25, i_ ((k : Int) + 1))] [] (fun κ => (IntKind.i64.wrap ((k : Int) + 1) = ((k : Int) + 1)) ∧ True) ⟨(wrap_i64 (e := (k : Int) + 1) (by constructor <;> omega)), trivial⟩ ?_))
          refine A.tn (A.next (k + 1, oneLR R x8, al'10, cl'11) ⟨(by omega), (by (rw [hw]; exact (apR_snoc (by assumption)).symm)), (by exact (ap_k hKw hLw hz (by assumption) h0 hr2).1), (by exact (ap_k hKw hLw hz (by assumption) h0 hr2).2.1), (by exact (ap_k hKw hLw hz (by assumption) h0 hr2).2.2)⟩ (by (show c.length - (k + 1) < c.length - k; omega)) ?_)
          exact A.hK [0, 1, 1, 1]
        exact absurd ((rap_k (t := t) (c := c) (by omega) (by omega) hKw hLw hz (by assumption) h0 hr2).1.symm.trans hok) (by assumption)
      have p5 := of_decide_eq_false e5
      refine A.exit (A.te (A.te (A.bh (tsr (A.gp [.p, .p, .p] [1, 23, 24, 25, 7, 26] [(43, vS ao R co), (44, i_ t), (45, vS ao R co)] ?_)))))
      refine A.cons (A.cT (some 46) [vS ao R co] [] ((fun zz => match zz with | (al'14, cl'15) => (vS al'14 (rlR R) cl'15))) ((fun zz => match zz with | (al'14, cl'15) => True)) ((fun zz => match zz with | (al'14, cl'15) => [sCv al'14 (rlR R) cl'15])) (fun ww ss hh => rlR_spec ao R co (by omega) ww ((rd_sl (i := 0) rfl) ww ss) hh) ?_)
      rintro ⟨al'14, cl'15⟩ -
      refine A.gsk [.cq (i_ (fitE t (rlR R))), .p, .st 2] [43, 44, 45, 46] [] [(2, blk b1 [vS ao R co, i_ 0, i_ (fitE t (rlR R))] 32)] [b1] (fun κ => κ.call 27 [i_ t, vS al'14 (rlR R) cl'15] (i_ (fitE t (rlR R))) ∧ True) ⟨(fun ww ss => rfits_spec t al'14 (rlR R) cl'15 (by exact Nat.le_trans (rlR_len _) (by omega)) (by exact rlR_okV (by assumption)) ww ((rd_sl (i := 0) rfl) ww ss)), trivial⟩ ?_
      refine A.tn (A.ret ?_)
      obtain ⟨q1_, q2_⟩ := (rap_e (t := t) (c := c) (by omega) (by omega) hKw h0 (by omega))
      rw [q1_] at hok
      refine A.setH [sCv al'14 (rlR R) cl'15, sCl ao (apR l c) co, blk b1 [vS ao R co, i_ 0, i_ (fitE t (rlR R))] 32, blk b3 (encZc x2) 50, blk b7 [vS al'4 (oneLR l x2) cl'5, i_ 0] 56] (cc rfl (cc (slC (by (rw [hw, List.take_of_length_le (by omega)]) : R = (apR l c))) rfl)) ?_
      refine A.postK [1] [(.agg #[vS ao R co, i_ 0, i_ (fitE t (rlR R))])] (fun aa ww rr ss => ⟨rv_cellN (vs := [vS ao R co, i_ 0, i_ (fitE t (rlR R))]) rr ss rfl (by kernel_rfl) (reads_blk (i := 2) rfl rfl), trivial⟩) (ao, co) ?_ ?_ (by kernel_rfl)
      · show ((.agg #[vS ao R co, i_ 0, i_ (fitE t (rlR R))]) : Value) = (.agg #[vS ao (apR l c) co, i_ 0, i_ 0])
        (rw [hok, hw, List.take_of_length_le (by omega)]; done)
      trivial
    exact absurd ((rap_0 (t := t) (c := c) (by omega) (by omega) hK hL hz (by assumption) hr).1.symm.trans hok) (by assumption)
  have p3 := of_decide_eq_false e3
  refine A.exit (A.te (A.te (A.bh (tsr (A.gp [.p, .p, .p] [1, 7, 23, 24, 25, 26] [(43, vS al l cl), (44, i_ t), (45, vS al l cl)] ?_)))))
  refine A.cons (A.cT (some 46) [vS al l cl] [] ((fun zz => match zz with | (al'17, cl'18) => (vS al'17 (rlR l) cl'18))) ((fun zz => match zz with | (al'17, cl'18) => True)) ((fun zz => match zz with | (al'17, cl'18) => [sCv al'17 (rlR l) cl'18])) (fun ww ss hh => rlR_spec al l cl (by omega) ww ((rd_old r0 (by simp [feet])) ww ss) hh) ?_)
  rintro ⟨al'17, cl'18⟩ -
  refine A.gsk [.cq (i_ (fitE t (rlR l))), .p, .st 1] [43, 44, 45, 46] [] [(1, blk b1 [vS al l cl, i_ 0, i_ (fitE t (rlR l))] 32)] [b1] (fun κ => κ.call 27 [i_ t, vS al'17 (rlR l) cl'18] (i_ (fitE t (rlR l))) ∧ True) ⟨(fun ww ss => rfits_spec t al'17 (rlR l) cl'18 (by exact Nat.le_trans (rlR_len _) (by omega)) (by exact rlR_okV (by assumption)) ww ((rd_sl (i := 0) rfl) ww ss)), trivial⟩ ?_
  refine A.tn (A.ret ?_)
  obtain ⟨q1_, q2_⟩ := (rap_z (t := t) (c := c) (by omega) (by omega) hK (by omega))
  exact absurd (List.eq_nil_of_length_eq_zero (by omega)) hc
end Go.Proofs.YtinnnoimmioaiaaGreat
