/- What the functions of this layer do, proved operation by operation, for all arguments, under the conditions that each theorem states. -/
import Derived.Test.YtinnnoimmioaiaaProg
import Derived.Test.YtinnnoimmioaiaaCurve1
import Derived.Test.YtinnnoimmioaiaaWide3
import Derived.Test.YtinnnoimmioaiaaL2
namespace Go.Proofs.Ytinnnoimmioaiaa
open Go V
set_option linter.unusedVariables false
set_option linter.unusedSimpArgs false
set_option maxHeartbeats 4000000
set_option maxRecDepth 100000
/-- the service of a curve in so many ticks -/
def sv (a b c t : Int) : Int := if ofC a b c = 0 then 0 else a * imin t b + c * (t - imin t b)
theorem ofC_max {a b c : Int} (ha : 0 ≤ a) (hb : 0 ≤ b) (hc : 0 ≤ c) (h : ofC a b c ≠ 0) : a ≤ 4294967295 ∧ c ≤ 4294967295 ∧ b ≤ 1048576 := by
  unfold ofC at h; split at h
  · omega
  · split at h
    · omega
    · omega
theorem mul_b {x y p q : Int} (hx : 0 ≤ x ∧ x ≤ p) (hy : 0 ≤ y ∧ y ≤ q) : 0 ≤ x * y ∧ x * y ≤ p * q :=
  ⟨Int.mul_nonneg hx.1 hy.1, Int.le_trans (Int.mul_le_mul_of_nonneg_left hy.2 hx.1) (Int.mul_le_mul_of_nonneg_right hx.2 (Int.le_trans hy.1 hy.2))⟩
theorem sv_parts {a b c t : Int} (ha : 0 ≤ a) (hb : 0 ≤ b) (hc : 0 ≤ c) (ht : 0 ≤ t ∧ t < 18446744073709551616) (h : ofC a b c ≠ 0) :
    (0 ≤ imin t b ∧ imin t b ≤ t) ∧ (0 ≤ a * imin t b ∧ a * imin t b ≤ 4503599626321920) ∧ 0 ≤ c * (t - imin t b) ∧ c * (t - imin t b) ≤ 79228162495817593515539431425 := by
  obtain ⟨h1, h2, h3⟩ := ofC_max ha hb hc h
  have e : 0 ≤ imin t b ∧ imin t b ≤ t ∧ imin t b ≤ 1048576 := by rw [imin_eq]; omega
  have p1 := mul_b (x := a) (y := imin t b) (p := 4294967295) (q := 1048576) ⟨ha, h1⟩ ⟨e.1, e.2.2⟩
  have p2 := mul_b (x := c) (y := t - imin t b) (p := 4294967295) (q := 18446744073709551615) ⟨hc, h2⟩ (by omega)
  exact ⟨⟨e.1, e.2.1⟩, ⟨p1.1, by omega⟩, p2.1, by omega⟩
theorem sv_rng {a b c t : Int} (ha : 0 ≤ a) (hb : 0 ≤ b) (hc : 0 ≤ c) (ht : 0 ≤ t ∧ t < 18446744073709551616) : 0 ≤ sv a b c t ∧ sv a b c t ≤ 79228162495822097115165753345 := by
  unfold sv; split
  · omega
  · have := sv_parts ha hb hc ht (by assumption); omega

theorem csv_spec (a b c t : Int) (ha : 0 ≤ a ∧ a < 18446744073709551616) (hb : 0 ≤ b ∧ b < 18446744073709551616) (hc : 0 ≤ c ∧ c < 18446744073709551616) (ht : 0 ≤ t ∧ t < 18446744073709551616) (w : World) :
    Calls Try.prog 94 #[(.agg #[u_ a, u_ b, u_ c]), u_ t] w fun e w' => e = .returned (.agg #[u_ (nH (sv a b c t)), u_ (nL (sv a b c t))]) ∧ Fr [] w w' := by
  refine calls_of (args := [(.agg #[u_ a, u_ b, u_ c]), u_ t]) (penv [(.agg #[u_ a, u_ b, u_ c]), u_ t]) [] [] Try.func94 rfl rfl (look_penv _) (HS.nil w) ?_
  refine A.sr (A.n2 [.al, .al] [0] (fun b1 b2 => [(2, p_ b1), (4, p_ b2)]) (fun b1 b2 => [blk b1 [u_ a, u_ b, u_ c] 43, blk b2 [u_ 0, u_ 0] 79]) ?_)
  intro b1 b2
  refine A.tn (A.seq (A.sr (A.gk [.ld 0, .cq (b_ (ofC a b c != 0)), .p] [] [(10, b_ (!(ofC a b c != 0)))] [b1] (fun κ => κ.call 85 [(.agg #[u_ a, u_ b, u_ c])] (b_ (ofC a b c != 0)) ∧ True) ⟨(fun ww ss => cright_spec a b c ww), trivial⟩ ?_)))
  refine A.tn (A.cn (!(ofC a b c != 0)) (fun e1 => ?_) (fun e1 => ?_))
  · have p1 := e1; try simp only [nrm] at p1
    refine A.sr (A.gs [.p, .st 1] [1, 2, 10] [] [] [b2] ?_)
    refine A.tn (A.ret (A.tr (A.postQ [(.agg #[u_ 0, u_ 0])] (fun aa ww rr ss => ⟨rv_cellN (vs := [u_ 0, u_ 0]) rr ss rfl (by kernel_rfl) (reads_blk (i := 1) rfl rfl), trivial⟩) ?_)))
    show ((.agg #[u_ 0, u_ 0]) : Value) = (.agg #[u_ (nH (sv a b c t)), u_ (nL (sv a b c t))])
    unfold sv; (rw [if_pos (by simp_all)]; rfl)
  have p1 := e1; try simp only [nrm] at p1
  refine A.skip (tsr (A.gk [.p, .p, .ld 0, .p, .p] [10] [(5, u_ (imin t b))] [b1] T0 trivial ?_))
  refine A.tn (A.seq (A.draw3 [14, 15] 17 [blk b1 [u_ a, u_ b, u_ c] 43, blk b2 [u_ 0, u_ 0] 79] (by kernel_rfl) ?_))
  refine A.drawB 3 [.p, .ld 0, .p, .cq (.agg #[u_ (nH (a * (imin t b))), u_ (nL (a * (imin t b)))]), .p, .ld 0, .p, .p, .w (t - (imin t b)), .cq (.agg #[u_ (nH (c * (t - (imin t b)))), u_ (nL (c * (t - (imin t b))))]), .cq (.tuple #[(.agg #[u_ (nH (((a * (imin t b)) + (c * (t - (imin t b)))) % 340282366920938463463374607431768211456)), u_ (nL (((a * (imin t b)) + (c * (t - (imin t b)))) % 340282366920938463463374607431768211456))]), b_ (decide ((a * (imin t b)) + (c * (t - (imin t b))) ≥ 340282366920938463463374607431768211456))]), .p, .p, .p] [0, 1, 2, 3, 4, 5, 6, 7, 8, 9, 10, 11, 12, 13] [(4, p_ b2), (28, (.agg #[u_ (nH (((a * (imin t b)) + (c * (t - (imin t b)))) % 340282366920938463463374607431768211456)), u_ (nL (((a * (imin t b)) + (c * (t - (imin t b)))) % 340282366920938463463374607431768211456))])), (29, b_ (decide ((a * (imin t b)) + (c * (t - (imin t b))) ≥ 340282366920938463463374607431768211456)))] [b1, b1] (fun κ => κ.call 91 [u_ a, u_ (imin t b)] (.agg #[u_ (nH (a * (imin t b))), u_ (nL (a * (imin t b)))]) ∧ (IntKind.u64.wrap (t - (imin t b)) = (t - (imin t b))) ∧ κ.call 91 [u_ c, u_ (t - (imin t b))] (.agg #[u_ (nH (c * (t - (imin t b)))), u_ (nL (c * (t - (imin t b))))]) ∧ κ.call 125 [(.agg #[u_ (nH (a * (imin t b))), u_ (nL (a * (imin t b)))]), (.agg #[u_ (nH (c * (t - (imin t b)))), u_ (nL (c * (t - (imin t b))))])] (.tuple #[(.agg #[u_ (nH (((a * (imin t b)) + (c * (t - (imin t b)))) % 340282366920938463463374607431768211456)), u_ (nL (((a * (imin t b)) + (c * (t - (imin t b)))) % 340282366920938463463374607431768211456))]), b_ (decide ((a * (imin t b)) + (c * (t - (imin t b))) ≥ 340282366920938463463374607431768211456))]) ∧ True) (by kernel_rfl) (List.Sublist.refl _) ⟨(fun ww ss => wmul_spec a (imin t b) (by assumption) (by (have h_ := imin_eq t b; omega)) ww), wrap_u64 (e := t - (imin t b)) (by (have h_ := imin_eq t b; constructor <;> omega)), (fun ww ss => wmul_spec c (t - (imin t b)) (by assumption) (by (have h_ := imin_eq t b; omega)) ww), (fun ww ss => wAdd_spec (a * (imin t b)) (c * (t - (imin t b))) (by (have h_ := sv_parts ha.1 hb.1 hc.1 ht (by simp_all); unfold W128; omega)) (by (have h_ := sv_parts ha.1 hb.1 hc.1 ht (by simp_all); unfold W128; omega)) ww), trivial⟩ ?_
  refine A.only3 14 rfl (by kernel_rfl) (A.alloc 6 [u_ 0, u_ 0] (by kernel_rfl) rfl (by kernel_rfl) (fun b3 => [blk b1 [u_ a, u_ b, u_ c] 43, blk b2 [u_ 0, u_ 0] 79, blk b3 [u_ 0, u_ 0] 79]) (fun _ => rfl) ?_)
  intro b3
  refine A.stage3 (.cons_cons _ (.cons_cons _ (.cons _ (List.Sublist.slnil)))) ?_
  refine A.only3 15 rfl (by kernel_rfl) (A.store 2 (vs := [u_ (nH (((a * (imin t b)) + (c * (t - (imin t b)))) % 340282366920938463463374607431768211456)), u_ (nL (((a * (imin t b)) + (c * (t - (imin t b)))) % 340282366920938463463374607431768211456))]) [blk b1 [u_ a, u_ b, u_ c] 43, blk b2 [u_ 0, u_ 0] 79, blk b3 [u_ (nH (((a * (imin t b)) + (c * (t - (imin t b)))) % 340282366920938463463374607431768211456)), u_ (nL (((a * (imin t b)) + (c * (t - (imin t b)))) % 340282366920938463463374607431768211456))] 79] (by kernel_rfl) rfl rfl rfl rfl (by kernel_rfl) rfl rfl (by kernel_rfl) rfl ?_)
  refine A.stage3 (.cons_cons _ (.cons_cons _ (.cons _ (List.Sublist.slnil)))) ?_
  refine A.drawB 0 [.p] [16] [(4, p_ b2), (6, p_ b3)] [] T0 (by kernel_rfl) (.cons_cons _ (.cons_cons _ (.cons _ (List.Sublist.slnil)))) trivial ?_
  refine A.fin3 (by kernel_rfl) ?_
  refine tsr (A.goAS [.ld 2, .st 1] [(4, p_ b2)] [blk b1 [u_ a, u_ b, u_ c] 43, blk b2 [u_ (nH (((a * (imin t b)) + (c * (t - (imin t b)))) % 340282366920938463463374607431768211456)), u_ (nL (((a * (imin t b)) + (c * (t - (imin t b)))) % 340282366920938463463374607431768211456))] 79, blk b3 [u_ (nH (((a * (imin t b)) + (c * (t - (imin t b)))) % 340282366920938463463374607431768211456)), u_ (nL (((a * (imin t b)) + (c * (t - (imin t b)))) % 340282366920938463463374607431768211456))] 79] [b3, b2] T0 (by kernel_rfl) trivial ?_)
  refine A.tn (A.ret (A.postQ [(.agg #[u_ (nH (((a * (imin t b)) + (c * (t - (imin t b)))) % 340282366920938463463374607431768211456)), u_ (nL (((a * (imin t b)) + (c * (t - (imin t b)))) % 340282366920938463463374607431768211456))])] (fun aa ww rr ss => ⟨rv_cellN (vs := [u_ (nH (((a * (imin t b)) + (c * (t - (imin t b)))) % 340282366920938463463374607431768211456)), u_ (nL (((a * (imin t b)) + (c * (t - (imin t b)))) % 340282366920938463463374607431768211456))]) rr ss rfl (by kernel_rfl) (reads_blk (i := 1) rfl rfl), trivial⟩) ?_))
  show ((.agg #[u_ (nH (((a * (imin t b)) + (c * (t - (imin t b)))) % 340282366920938463463374607431768211456)), u_ (nL (((a * (imin t b)) + (c * (t - (imin t b)))) % 340282366920938463463374607431768211456))]) : Value) = (.agg #[u_ (nH (sv a b c t)), u_ (nL (sv a b c t))])
  unfold sv; ((have h0_ : ofC a b c ≠ 0 := by simp_all); rw [if_neg h0_]; have h_ := sv_parts ha.1 hb.1 hc.1 ht h0_; rw [Int.emod_eq_of_lt (by omega) (by omega)])

theorem rsv_spec (a b c t : Int) (ha : 0 ≤ a ∧ a < 18446744073709551616) (hb : 0 ≤ b ∧ b < 18446744073709551616) (hc : 0 ≤ c ∧ c < 18446744073709551616) (ht : 0 ≤ t ∧ t < 18446744073709551616) (w : World) :
    Calls Try.prog 54 #[(.agg #[u_ a, u_ b, u_ c]), u_ t] w fun e w' => e = .returned (.agg #[u_ (dA (sv a b c t)), u_ (dB (sv a b c t)), u_ (dC (sv a b c t)), u_ (dD (sv a b c t))]) ∧ Fr [] w w' := by
  refine calls_of (args := [(.agg #[u_ a, u_ b, u_ c]), u_ t]) (penv [(.agg #[u_ a, u_ b, u_ c]), u_ t]) [] [] Try.func54 rfl rfl (look_penv _) (HS.nil w) ?_
  refine A.sr (A.n2 [.al, .al] [0] (fun b1 b2 => [(2, p_ b1), (4, p_ b2)]) (fun b1 b2 => [blk b1 [u_ a, u_ b, u_ c] 43, blk b2 [u_ 0, u_ 0, u_ 0, u_ 0] 36]) ?_)
  intro b1 b2
  refine A.tn (A.seq (A.sr (A.gk [.ld 0, .cq (i_ (ofR a b c)), .p] [] [(7, b_ ((ofR a b c) == 0))] [b1] (fun κ => κ.call 97 [(.agg #[u_ a, u_ b, u_ c])] (i_ (ofR a b c)) ∧ True) ⟨(fun ww ss => rof_spec a b c ww), trivial⟩ ?_)))
  refine A.tn (A.cn ((ofR a b c) == 0) (fun e1 => ?_) (fun e1 => ?_))
  · have p1 := e1; try simp only [nrm] at p1
    refine A.sr (A.gs [.p, .st 1] [1, 2, 7] [] [] [b2] ?_)
    refine A.tn (A.ret (A.tr (A.postQ [(.agg #[u_ 0, u_ 0, u_ 0, u_ 0])] (fun aa ww rr ss => ⟨rv_cellN (vs := [u_ 0, u_ 0, u_ 0, u_ 0]) rr ss rfl (by kernel_rfl) (reads_blk (i := 1) rfl rfl), trivial⟩) ?_)))
    show ((.agg #[u_ 0, u_ 0, u_ 0, u_ 0]) : Value) = (.agg #[u_ (dA (sv a b c t)), u_ (dB (sv a b c t)), u_ (dC (sv a b c t)), u_ (dD (sv a b c t))])
    have eR := ofC_ofR ha.1 hb.1 hc.1; unfold sv; (rw [if_pos (by simp_all)]; rfl)
  have p1 := e1; try simp only [nrm] at p1
  refine A.skip (A.tn (A.seq (A.sr (A.gk [.p, .p, .ld 0, .p] [7] [(12, b_ (decide (t ≤ b)))] [b1] T0 trivial ?_))))
  refine A.tn (A.cn (decide (t ≤ b)) (fun e2 => ?_) (fun e2 => ?_))
  · have p2 := of_decide_eq_true e2
    refine A.sr (A.gsk [.p, .ld 0, .p, .cq (.agg #[u_ (dA (a * t)), u_ (dB (a * t)), u_ (dC (a * t)), u_ (dD (a * t))]), .st 1] [1, 2, 12] [] [(1, blk b2 [u_ (dA (a * t)), u_ (dB (a * t)), u_ (dC (a * t)), u_ (dD (a * t))] 36)] [b1, b2] (fun κ => κ.call 51 [u_ a, u_ t] (.agg #[u_ (dA (a * t)), u_ (dB (a * t)), u_ (dC (a * t)), u_ (dD (a * t))]) ∧ True) ⟨(fun ww ss => rMul_spec a t (by assumption) (by assumption) ww), trivial⟩ ?_)
    refine A.tn (A.ret (A.tr (A.postQ [(.agg #[u_ (dA (a * t)), u_ (dB (a * t)), u_ (dC (a * t)), u_ (dD (a * t))])] (fun aa ww rr ss => ⟨rv_cellN (vs := [u_ (dA (a * t)), u_ (dB (a * t)), u_ (dC (a * t)), u_ (dD (a * t))]) rr ss rfl (by kernel_rfl) (reads_blk (i := 1) rfl rfl), trivial⟩) ?_)))
    show ((.agg #[u_ (dA (a * t)), u_ (dB (a * t)), u_ (dC (a * t)), u_ (dD (a * t))]) : Value) = (.agg #[u_ (dA (sv a b c t)), u_ (dB (sv a b c t)), u_ (dC (sv a b c t)), u_ (dD (sv a b c t))])
    have eR := ofC_ofR ha.1 hb.1 hc.1; unfold sv; ((have h0_ : ofC a b c ≠ 0 := by simp_all); rw [if_neg h0_]; have h_ := sv_parts ha.1 hb.1 hc.1 ht h0_; (rw [show imin t b = t by rw [imin_eq]; omega, Int.sub_self, Int.mul_zero, Int.add_zero]; done))
  have p2 := of_decide_eq_false e2
  refine A.skip (A.tn (A.seq (A.draw2 [13] 14 (by kernel_rfl) ?_)))
  refine A.dP 1 [.p, .ld 0, .p, .ld 0, .cq (.agg #[u_ (dA (a * b)), u_ (dB (a * b)), u_ (dC (a * b)), u_ (dD (a * b))]), .p, .ld 0, .p, .p, .ld 0, .w (t - b), .cq (.agg #[u_ (dA (c * (t - b))), u_ (dB (c * (t - b))), u_ (dC (c * (t - b))), u_ (dD (c * (t - b)))]), .cq (.agg #[u_ (dA (((a * b) + (c * (t - b))) % 340282366920938463463374607431768211456)), u_ (dB (((a * b) + (c * (t - b))) % 340282366920938463463374607431768211456)), u_ (dC (((a * b) + (c * (t - b))) % 340282366920938463463374607431768211456)), u_ (dD (((a * b) + (c * (t - b))) % 340282366920938463463374607431768211456))])] [0, 1, 2, 3, 4, 5, 6, 7, 8, 9, 10, 11, 12] [1, 2, 12] [(29, (.agg #[u_ (dA (((a * b) + (c * (t - b))) % 340282366920938463463374607431768211456)), u_ (dB (((a * b) + (c * (t - b))) % 340282366920938463463374607431768211456)), u_ (dC (((a * b) + (c * (t - b))) % 340282366920938463463374607431768211456)), u_ (dD (((a * b) + (c * (t - b))) % 340282366920938463463374607431768211456))]))] [b1, b1, b1, b1] (fun κ => κ.call 51 [u_ a, u_ b] (.agg #[u_ (dA (a * b)), u_ (dB (a * b)), u_ (dC (a * b)), u_ (dD (a * b))]) ∧ (IntKind.u64.wrap (t - b) = (t - b)) ∧ κ.call 51 [u_ c, u_ (t - b)] (.agg #[u_ (dA (c * (t - b))), u_ (dB (c * (t - b))), u_ (dC (c * (t - b))), u_ (dD (c * (t - b)))]) ∧ κ.call 53 [(.agg #[u_ (dA (a * b)), u_ (dB (a * b)), u_ (dC (a * b)), u_ (dD (a * b))]), (.agg #[u_ (dA (c * (t - b))), u_ (dB (c * (t - b))), u_ (dC (c * (t - b))), u_ (dD (c * (t - b)))])] (.agg #[u_ (dA (((a * b) + (c * (t - b))) % 340282366920938463463374607431768211456)), u_ (dB (((a * b) + (c * (t - b))) % 340282366920938463463374607431768211456)), u_ (dC (((a * b) + (c * (t - b))) % 340282366920938463463374607431768211456)), u_ (dD (((a * b) + (c * (t - b))) % 340282366920938463463374607431768211456))]) ∧ True) ⟨(fun ww ss => rMul_spec a b (by assumption) (by assumption) ww), wrap_u64 (e := t - b) (by constructor <;> omega), (fun ww ss => rMul_spec c (t - b) (by assumption) (by omega) ww), (fun ww ss => rPlus_spec (a * b) (c * (t - b)) (by ((have h0_ : ofC a b c ≠ 0 := by rw [ofC_ofR ha.1 hb.1 hc.1]; simp_all); have h_ := sv_parts ha.1 hb.1 hc.1 ht h0_; rw [show imin t b = b by rw [imin_eq]; omega] at h_; unfold W128; omega)) (by ((have h0_ : ofC a b c ≠ 0 := by rw [ofC_ofR ha.1 hb.1 hc.1]; simp_all); have h_ := sv_parts ha.1 hb.1 hc.1 ht h0_; rw [show imin t b = b by rw [imin_eq]; omega] at h_; unfold W128; omega)) ww), trivial⟩ ?_
  refine A.only2 13 rfl (by kernel_rfl) (A.store 1 (vs := [u_ (dA (((a * b) + (c * (t - b))) % 340282366920938463463374607431768211456)), u_ (dB (((a * b) + (c * (t - b))) % 340282366920938463463374607431768211456)), u_ (dC (((a * b) + (c * (t - b))) % 340282366920938463463374607431768211456)), u_ (dD (((a * b) + (c * (t - b))) % 340282366920938463463374607431768211456))]) [blk b1 [u_ a, u_ b, u_ c] 43, blk b2 [u_ (dA (((a * b) + (c * (t - b))) % 340282366920938463463374607431768211456)), u_ (dB (((a * b) + (c * (t - b))) % 340282366920938463463374607431768211456)), u_ (dC (((a * b) + (c * (t - b))) % 340282366920938463463374607431768211456)), u_ (dD (((a * b) + (c * (t - b))) % 340282366920938463463374607431768211456))] 36] (by kernel_rfl) rfl rfl rfl rfl (by kernel_rfl) rfl rfl (by kernel_rfl) rfl ?_)
  refine A.stage ?_
  refine A.fin2 (by kernel_rfl) ?_
  refine A.tn (A.ret (A.postQ [(.agg #[u_ (dA (((a * b) + (c * (t - b))) % 340282366920938463463374607431768211456)), u_ (dB (((a * b) + (c * (t - b))) % 340282366920938463463374607431768211456)), u_ (dC (((a * b) + (c * (t - b))) % 340282366920938463463374607431768211456)), u_ (dD (((a * b) + (c * (t - b))) % 340282366920938463463374607431768211456))])] (fun aa ww rr ss => ⟨rv_cellN (vs := [u_ (dA (((a * b) + (c * (t - b))) % 340282366920938463463374607431768211456)), u_ (dB (((a * b) + (c * (t - b))) % 340282366920938463463374607431768211456)), u_ (dC (((a * b) + (c * (t - b))) % 340282366920938463463374607431768211456)), u_ (dD (((a * b) + (c * (t - b))) % 340282366920938463463374607431768211456))]) rr ss rfl (by kernel_rfl) (reads_blk (i := 1) rfl rfl), trivial⟩) ?_))
  show ((.agg #[u_ (dA (((a * b) + (c * (t - b))) % 340282366920938463463374607431768211456)), u_ (dB (((a * b) + (c * (t - b))) % 340282366920938463463374607431768211456)), u_ (dC (((a * b) + (c * (t - b))) % 340282366920938463463374607431768211456)), u_ (dD (((a * b) + (c * (t - b))) % 340282366920938463463374607431768211456))]) : Value) = (.agg #[u_ (dA (sv a b c t)), u_ (dB (sv a b c t)), u_ (dC (sv a b c t)), u_ (dD (sv a b c t))])
  have eR := ofC_ofR ha.1 hb.1 hc.1; unfold sv; ((have h0_ : ofC a b c ≠ 0 := by simp_all); rw [if_neg h0_]; have h_ := sv_parts ha.1 hb.1 hc.1 ht h0_; (rw [show imin t b = b by rw [imin_eq]; omega] at h_ ⊢; rw [Int.emod_eq_of_lt (by omega) (by omega)]))
end Go.Proofs.Ytinnnoimmioaiaa
