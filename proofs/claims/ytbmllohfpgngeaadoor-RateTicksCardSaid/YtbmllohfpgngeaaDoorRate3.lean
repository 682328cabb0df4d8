/- What the functions of this layer do, proved operation by operation, for all arguments, under the conditions that each theorem states. -/
import Derived.Test.YtbmllohfpgngeaaDoorProg
import Derived.Test.YtbmllohfpgngeaaDoorRate2
namespace Go.Proofs.YtbmllohfpgngeaaDoor
open Go V
set_option linter.unusedVariables false
set_option linter.unusedSimpArgs false

set_option maxHeartbeats 4000000 in
set_option maxRecDepth 100000 in
theorem rmay_spec (n a b h : Int) (w : World) :
    Calls Tryd.prog 35 #[u_ n, u_ a, u_ b, u_ h] w fun e w' => e = .returned (b_ (mayB n a b h)) ∧ Fr [] w w' := by
  refine calls_of (args := [u_ n, u_ a, u_ b, u_ h]) (penv [u_ n, u_ a, u_ b, u_ h]) [] [] Tryd.func35 rfl rfl (look_penv _) (HS.nil w) ?_
  refine A.norm [(0, u_ n), (1, u_ a), (2, u_ b), (3, u_ h)] [] (by exact ⟨rfl, rfl, rfl, rfl, trivial⟩) rfl ?_
  refine A.seq (A.region (A.goA [.p] [(0, u_ n), (1, u_ a), (2, u_ b), (3, u_ h), (8, b_ false)] [] T0 (by kernel_rfl) trivial ?_))
  refine A.tn (A.seq (A.region (A.goA [.p, .p, .p, .p, .o, .p, .p, .p, .cl, .p, .o, .p, .p, .cl, .p, .o, .p, .p, .cl, .p] [(0, u_ n), (1, u_ a), (2, u_ b), (3, u_ h), (8, b_ ((((decide (n ≥ a)) && (decide (n ≤ b))) && (decide (h ≥ 1))) && (decide (h ≤ 1000000000))))] [] T0 (by kernel_rfl) trivial ?_)))
  refine A.tn (A.ret (A.postQ [b_ ((((decide (n ≥ a)) && (decide (n ≤ b))) && (decide (h ≥ 1))) && (decide (h ≤ 1000000000)))] (fun aa ww rr ss => ⟨rv_tmp rr rfl, trivial⟩) ?_))
  show ((b_ ((((decide (n ≥ a)) && (decide (n ≤ b))) && (decide (h ≥ 1))) && (decide (h ≤ 1000000000)))) : Value) = (b_ (mayB n a b h))
  first | rfl | (unfold mayB; rfl)

set_option maxHeartbeats 4000000 in
set_option maxRecDepth 100000 in
theorem r43rd_spec (n h : Int) (w : World) :
    Calls Tryd.prog 39 #[u_ n, u_ h] w fun e w' => e = .returned (b_ (mayB n 1 1000000000000 h)) ∧ Fr [] w w' := by
  refine calls_of (args := [u_ n, u_ h]) (penv [u_ n, u_ h]) [] [] Tryd.func39 rfl rfl (look_penv _) (HS.nil w) ?_
  refine A.norm [(0, u_ n), (1, u_ h)] [] (by exact ⟨rfl, rfl, trivial⟩) rfl ?_
  refine A.seq (A.region (A.goA [.p] [(0, u_ n), (1, u_ h), (4, b_ false)] [] T0 (by kernel_rfl) trivial ?_))
  refine A.tn (A.seq (A.region (A.goA [.p, .p, .p, .o, .p, .p, .cl, .p, .o, .p, .p, .cl, .p, .o, .p, .p, .cl, .p] [(0, u_ n), (1, u_ h), (4, b_ ((((decide (n ≥ 1)) && (decide (n ≤ 1000000000000))) && (decide (h ≥ 1))) && (decide (h ≤ 1000000000))))] [] T0 (by kernel_rfl) trivial ?_)))
  refine A.tn (A.ret (A.postQ [b_ ((((decide (n ≥ 1)) && (decide (n ≤ 1000000000000))) && (decide (h ≥ 1))) && (decide (h ≤ 1000000000)))] (fun aa ww rr ss => ⟨rv_tmp rr rfl, trivial⟩) ?_))
  show ((b_ ((((decide (n ≥ 1)) && (decide (n ≤ 1000000000000))) && (decide (h ≥ 1))) && (decide (h ≤ 1000000000)))) : Value) = (b_ (mayB n 1 1000000000000 h))
  first | rfl | (unfold mayB; rfl)

set_option maxHeartbeats 4000000 in
set_option maxRecDepth 100000 in
theorem rwit_spec (n q m : Int) (w : World) :
    Calls Tryd.prog 37 #[u_ n, i_ q, u_ m] w fun e w' => e = .returned (.tuple #[u_ ((witP n q m).pv), i_ ((witP n q m).pe)]) ∧ Fr [] w w' := by
  refine calls_of (args := [u_ n, i_ q, u_ m]) (penv [u_ n, i_ q, u_ m]) [] [] Tryd.func37 rfl rfl (look_penv _) (HS.nil w) ?_
  refine A.norm [(0, u_ n), (1, i_ q), (2, u_ m)] [] (by exact ⟨rfl, rfl, rfl, trivial⟩) rfl ?_
  refine A.seq (A.region (A.goA [.p, .p] [(0, u_ n), (1, i_ q), (2, u_ m), (6, u_ 0), (7, i_ 0)] [] T0 (by kernel_rfl) trivial ?_))
  refine A.tn (A.seq (A.seq (A.region (A.goA [.p, .p, .p, .o, .p, .p, .p, .cl] [(0, u_ n), (1, i_ q), (2, u_ m), (6, u_ 0), (7, i_ 0), (14, b_ ((q != 0) || (decide (n > m))))] [] T0 (by kernel_rfl) trivial ?_))))
  refine A.tn (A.cond (E := (q != 0) || (decide (n > m))) rfl (fun e1 => ?_) (fun e1 => ?_))
  · skip
    have p1 := e1; try simp only [nrm, bs_inj, Bool.or_eq_true, Bool.or_eq_false_iff, Bool.and_eq_true, Bool.and_eq_false_imp, decide_eq_true_eq, decide_eq_false_iff_not] at p1
    refine A.seq (A.region (A.goA [.p, .p] [(0, u_ n), (1, i_ q), (2, u_ m), (6, u_ 0), (7, i_ 20), (14, b_ ((q != 0) || (decide (n > m))))] [] T0 (by kernel_rfl) trivial ?_))
    refine A.tn (A.ret (A.tr (A.postQ [u_ 0, i_ 20] (fun aa ww rr ss => ⟨rv_tmp rr rfl, rv_tmp rr rfl, trivial⟩) ?_)))
    show ((.tuple #[u_ 0, i_ 20]) : Value) = (.tuple #[u_ ((witP n q m).pv), i_ ((witP n q m).pe)])
    unfold witP; first | (rw [if_pos (by simp_all)]; done) | (rw [if_neg (by simp_all)]; done) | (rw [if_neg (by simp_all; omega)]; done)
  · skip
    have p1 := e1; try simp only [nrm, bs_inj, Bool.or_eq_true, Bool.or_eq_false_iff, Bool.and_eq_true, Bool.and_eq_false_imp, decide_eq_true_eq, decide_eq_false_iff_not] at p1
    refine A.skip (A.tn (A.seq (A.region (A.goA [.p, .p, .p] [(0, u_ n), (1, i_ q), (2, u_ m), (6, u_ n), (7, i_ 0), (14, b_ ((q != 0) || (decide (n > m))))] [] T0 (by kernel_rfl) trivial ?_))))
    refine A.tn (A.ret (A.postQ [u_ n, i_ 0] (fun aa ww rr ss => ⟨rv_tmp rr rfl, rv_tmp rr rfl, trivial⟩) ?_))
    show ((.tuple #[u_ n, i_ 0]) : Value) = (.tuple #[u_ ((witP n q m).pv), i_ ((witP n q m).pe)])
    unfold witP; first | (rw [if_pos (by simp_all)]; done) | (rw [if_neg (by simp_all)]; done) | (rw [if_neg (by simp_all; omega)]; done)

set_option maxHeartbeats 4000000 in
set_option maxRecDepth 100000 in
theorem r43ov_spec (n q m : Int) (w : World) :
    Calls Tryd.prog 40 #[(.agg #[u_ n, i_ q]), u_ m] w fun e w' => e = .returned (.agg #[u_ ((witP n q m).pv), i_ ((witP n q m).pe)]) ∧ Fr [] w w' := by
  refine calls_of (args := [(.agg #[u_ n, i_ q]), u_ m]) (penv [(.agg #[u_ n, i_ q]), u_ m]) [] [] Tryd.func40 rfl rfl (look_penv _) (HS.nil w) ?_
  refine A.norm [(0, (.agg #[u_ n, i_ q])), (1, u_ m)] [] (by exact ⟨rfl, rfl, trivial⟩) rfl ?_
  refine A.seq (A.region (A.goA2 [.al, .al] [0, 1, 2, 4] (fun b1 b2 => [(0, (.agg #[u_ n, i_ q])), (1, u_ m), (2, p_ b1), (4, p_ b2)]) (fun b1 b2 => [blk b1 [u_ n, i_ q] 63, blk b2 [u_ 0, i_ 0] 28]) (fun b1 b2 => []) (fun _ _ => T0) (fun _ _ => by kernel_rfl) (fun b1 b2 => trivial) ?_))
  intro b1 b2
  refine A.tn (A.seq (A.seq (A.region (A.goA [.p, .ld 0, .p, .p, .o, .p, .ld 0, .p, .p, .cl] [(0, (.agg #[u_ n, i_ q])), (1, u_ m), (2, p_ b1), (4, p_ b2), (13, b_ ((q != 0) || (decide (n > m))))] [b1, b1] T0 (by kernel_rfl) trivial ?_))))
  refine A.tn (A.cond (E := (q != 0) || (decide (n > m))) rfl (fun e1 => ?_) (fun e1 => ?_))
  · skip
    have p1 := e1; try simp only [nrm, bs_inj, Bool.or_eq_true, Bool.or_eq_false_iff, Bool.and_eq_true, Bool.and_eq_false_imp, decide_eq_true_eq, decide_eq_false_iff_not] at p1
    refine A.seq (A.region (A.goAS [.p, .st 1] [(0, (.agg #[u_ n, i_ q])), (1, u_ m), (2, p_ b1), (4, p_ b2), (13, b_ ((q != 0) || (decide (n > m))))] [blk b1 [u_ n, i_ q] 63, blk b2 [u_ 0, i_ 20] 28] [b2] T0 (by kernel_rfl) trivial ?_))
    refine A.tn (A.ret (A.tr (A.postQ [(.agg #[u_ 0, i_ 20])] (fun aa ww rr ss => ⟨rv_cellN (vs := [u_ 0, i_ 20]) rr ss rfl (by kernel_rfl) (reads_blk (i := 1) rfl rfl), trivial⟩) ?_)))
    show ((.agg #[u_ 0, i_ 20]) : Value) = (.agg #[u_ ((witP n q m).pv), i_ ((witP n q m).pe)])
    unfold witP; first | (rw [if_pos (by simp_all)]; done) | (rw [if_neg (by simp_all)]; done) | (rw [if_neg (by simp_all; omega)]; done)
  · skip
    have p1 := e1; try simp only [nrm, bs_inj, Bool.or_eq_true, Bool.or_eq_false_iff, Bool.and_eq_true, Bool.and_eq_false_imp, decide_eq_true_eq, decide_eq_false_iff_not] at p1
    refine A.skip (A.tn (A.seq (A.region (A.goAS [.p, .ld 0, .p, .st 1] [(0, (.agg #[u_ n, i_ q])), (1, u_ m), (2, p_ b1), (4, p_ b2), (13, b_ ((q != 0) || (decide (n > m))))] [blk b1 [u_ n, i_ q] 63, blk b2 [u_ n, i_ 0] 28] [b1, b2] T0 (by kernel_rfl) trivial ?_))))
    refine A.tn (A.ret (A.postQ [(.agg #[u_ n, i_ 0])] (fun aa ww rr ss => ⟨rv_cellN (vs := [u_ n, i_ 0]) rr ss rfl (by kernel_rfl) (reads_blk (i := 1) rfl rfl), trivial⟩) ?_))
    show ((.agg #[u_ n, i_ 0]) : Value) = (.agg #[u_ ((witP n q m).pv), i_ ((witP n q m).pe)])
    unfold witP; first | (rw [if_pos (by simp_all)]; done) | (rw [if_neg (by simp_all)]; done) | (rw [if_neg (by simp_all; omega)]; done)

set_option maxHeartbeats 4000000 in
set_option maxRecDepth 100000 in
theorem rslo_spec (n h : Int) (hn : 0 ≤ n ∧ n < 18446744073709551616) (hh : 0 ≤ h ∧ h < 18446744073709551616) (w : World) :
    Calls Tryd.prog 18 #[u_ n, u_ h] w fun e w' => e = .returned (.tuple #[u_ ((slP n h).pv), i_ ((slP n h).pe)]) ∧ Fr [] w w' := by
  refine calls_of (args := [u_ n, u_ h]) (penv [u_ n, u_ h]) [] [] Tryd.func18 rfl rfl (look_penv _) (HS.nil w) ?_
  refine A.norm [(0, u_ n), (1, u_ h)] [] (by exact ⟨rfl, rfl, trivial⟩) rfl ?_
  refine A.seq (A.region (A.goA [.p, .p] [(0, u_ n), (1, u_ h), (4, u_ 0), (5, i_ 0)] [] T0 (by kernel_rfl) trivial ?_))
  refine A.tn (A.seq (A.seq (A.region (A.goA [.p, .p, .cq (b_ (mayB n 1 1000000000000 h)), .p] [(0, u_ n), (1, u_ h), (4, u_ 0), (5, i_ 0), (11, b_ (!(mayB n 1 1000000000000 h)))] [] (fun κ => κ.call 35 [u_ n, u_ 1, u_ 1000000000000, u_ h] (b_ (mayB n 1 1000000000000 h)) ∧ True) (by kernel_rfl) ⟨(fun ww ss => rmay_spec n 1 1000000000000 h ww), trivial⟩ ?_))))
  refine A.tn (A.cond (E := !(mayB n 1 1000000000000 h)) rfl (fun e1 => ?_) (fun e1 => ?_))
  · skip
    have p1 := e1; try simp only [nrm, bs_inj, Bool.or_eq_true, Bool.or_eq_false_iff, Bool.and_eq_true, Bool.and_eq_false_imp, decide_eq_true_eq, decide_eq_false_iff_not] at p1
    refine A.seq (A.region (A.goA [.p, .p] [(0, u_ n), (1, u_ h), (4, u_ 0), (5, i_ 1), (11, b_ (!(mayB n 1 1000000000000 h)))] [] T0 (by kernel_rfl) trivial ?_))
    refine A.tn (A.ret (A.tr (A.postQ [u_ 0, i_ 1] (fun aa ww rr ss => ⟨rv_tmp rr rfl, rv_tmp rr rfl, trivial⟩) ?_)))
    show ((.tuple #[u_ 0, i_ 1]) : Value) = (.tuple #[u_ ((slP n h).pv), i_ ((slP n h).pe)])
    unfold slP; first | (rw [if_pos (by simp_all)]; done) | (rw [if_neg (by simp_all)]; done)
  · skip
    have p1 := e1; try simp only [nrm, bs_inj, Bool.or_eq_true, Bool.or_eq_false_iff, Bool.and_eq_true, Bool.and_eq_false_imp, decide_eq_true_eq, decide_eq_false_iff_not] at p1
    refine A.skip (A.tn (A.seq (A.region (A.goA [.p, .p, .cq (.tuple #[u_ (nrV (n * 8192 / h)), i_ (nrE (n * 8192 / h))]), .p, .p, .p, .p, .p] [(0, u_ n), (1, u_ h), (4, u_ 0), (5, i_ 0), (11, b_ (!(mayB n 1 1000000000000 h))), (6, u_ (nrV (n * 8192 / h))), (7, i_ (nrE (n * 8192 / h)))] [] (fun κ => κ.call 36 [u_ n, u_ 8192, u_ h] (.tuple #[u_ (nrV (n * 8192 / h)), i_ (nrE (n * 8192 / h))]) ∧ True) (by kernel_rfl) ⟨(fun ww ss => rdn_spec n 8192 h (by first | assumption | omega | ((have hm_ : mayB n 1 1000000000000 h = true := (by first | assumption | simp_all)); have hm2_ := may_iff.1 hm_; first | omega | exact mul_rngR (by omega) (by omega) | exact (mul_rngR (by omega) (by omega))) | ((have hm_ : mayB n 0 1000000000 h = true := (by first | assumption | simp_all)); have hm2_ := may_iff.1 hm_; first | omega | exact mul_rngR (by omega) (by omega))) (by first | assumption | omega | ((have hm_ : mayB n 1 1000000000000 h = true := (by first | assumption | simp_all)); have hm2_ := may_iff.1 hm_; first | omega | exact mul_rngR (by omega) (by omega) | exact (mul_rngR (by omega) (by omega))) | ((have hm_ : mayB n 0 1000000000 h = true := (by first | assumption | simp_all)); have hm2_ := may_iff.1 hm_; first | omega | exact mul_rngR (by omega) (by omega))) (by first | assumption | omega | ((have hm_ : mayB n 1 1000000000000 h = true := (by first | assumption | simp_all)); have hm2_ := may_iff.1 hm_; first | omega | exact mul_rngR (by omega) (by omega) | exact (mul_rngR (by omega) (by omega))) | ((have hm_ : mayB n 0 1000000000 h = true := (by first | assumption | simp_all)); have hm2_ := may_iff.1 hm_; first | omega | exact mul_rngR (by omega) (by omega))) ww), trivial⟩ ?_))))
    refine A.tn (A.seq (A.region (A.goA [.p, .p, .cq (.tuple #[u_ ((witP (nrV (n * 8192 / h)) (nrE (n * 8192 / h)) 4294967295).pv), i_ ((witP (nrV (n * 8192 / h)) (nrE (n * 8192 / h)) 4294967295).pe)]), .p, .p, .p, .p] [(0, u_ n), (1, u_ h), (4, u_ ((witP (nrV (n * 8192 / h)) (nrE (n * 8192 / h)) 4294967295).pv)), (5, i_ ((witP (nrV (n * 8192 / h)) (nrE (n * 8192 / h)) 4294967295).pe)), (11, b_ (!(mayB n 1 1000000000000 h))), (6, u_ (nrV (n * 8192 / h))), (7, i_ (nrE (n * 8192 / h)))] [] (fun κ => κ.call 37 [u_ (nrV (n * 8192 / h)), i_ (nrE (n * 8192 / h)), u_ 4294967295] (.tuple #[u_ ((witP (nrV (n * 8192 / h)) (nrE (n * 8192 / h)) 4294967295).pv), i_ ((witP (nrV (n * 8192 / h)) (nrE (n * 8192 / h)) 4294967295).pe)]) ∧ True) (by kernel_rfl) ⟨(fun ww ss => rwit_spec (nrV (n * 8192 / h)) (nrE (n * 8192 / h)) 4294967295 ww), trivial⟩ ?_)))
    refine A.tn (A.ret (A.postQ [u_ ((witP (nrV (n * 8192 / h)) (nrE (n * 8192 / h)) 4294967295).pv), i_ ((witP (nrV (n * 8192 / h)) (nrE (n * 8192 / h)) 4294967295).pe)] (fun aa ww rr ss => ⟨rv_tmp rr rfl, rv_tmp rr rfl, trivial⟩) ?_))
    show ((.tuple #[u_ ((witP (nrV (n * 8192 / h)) (nrE (n * 8192 / h)) 4294967295).pv), i_ ((witP (nrV (n * 8192 / h)) (nrE (n * 8192 / h)) 4294967295).pe)]) : Value) = (.tuple #[u_ ((slP n h).pv), i_ ((slP n h).pe)])
    unfold slP; first | (rw [if_pos (by simp_all)]; done) | (rw [if_neg (by simp_all)]; done)

set_option maxHeartbeats 4000000 in
set_option maxRecDepth 100000 in
theorem rtik_spec (n h : Int) (hn : 0 ≤ n ∧ n < 18446744073709551616) (hh : 0 ≤ h ∧ h < 18446744073709551616) (w : World) :
    Calls Tryd.prog 19 #[u_ n, u_ h] w fun e w' => e = .returned (.tuple #[u_ ((tkP n h).pv), i_ ((tkP n h).pe)]) ∧ Fr [] w w' := by
  refine calls_of (args := [u_ n, u_ h]) (penv [u_ n, u_ h]) [] [] Tryd.func19 rfl rfl (look_penv _) (HS.nil w) ?_
  refine A.norm [(0, u_ n), (1, u_ h)] [] (by exact ⟨rfl, rfl, trivial⟩) rfl ?_
  refine A.seq (A.region (A.goA [.p, .p] [(0, u_ n), (1, u_ h), (4, u_ 0), (5, i_ 0)] [] T0 (by kernel_rfl) trivial ?_))
  refine A.tn (A.seq (A.seq (A.region (A.goA [.p, .p, .cq (b_ (mayB n 0 1000000000 h)), .p] [(0, u_ n), (1, u_ h), (4, u_ 0), (5, i_ 0), (11, b_ (!(mayB n 0 1000000000 h)))] [] (fun κ => κ.call 35 [u_ n, u_ 0, u_ 1000000000, u_ h] (b_ (mayB n 0 1000000000 h)) ∧ True) (by kernel_rfl) ⟨(fun ww ss => rmay_spec n 0 1000000000 h ww), trivial⟩ ?_))))
  refine A.tn (A.cond (E := !(mayB n 0 1000000000 h)) rfl (fun e1 => ?_) (fun e1 => ?_))
  · skip
    have p1 := e1; try simp only [nrm, bs_inj, Bool.or_eq_true, Bool.or_eq_false_iff, Bool.and_eq_true, Bool.and_eq_false_imp, decide_eq_true_eq, decide_eq_false_iff_not] at p1
    refine A.seq (A.region (A.goA [.p, .p] [(0, u_ n), (1, u_ h), (4, u_ 0), (5, i_ 1), (11, b_ (!(mayB n 0 1000000000 h)))] [] T0 (by kernel_rfl) trivial ?_))
    refine A.tn (A.ret (A.tr (A.postQ [u_ 0, i_ 1] (fun aa ww rr ss => ⟨rv_tmp rr rfl, rv_tmp rr rfl, trivial⟩) ?_)))
    show ((.tuple #[u_ 0, i_ 1]) : Value) = (.tuple #[u_ ((tkP n h).pv), i_ ((tkP n h).pe)])
    unfold tkP; first | (rw [if_pos (by simp_all)]; done) | (rw [if_neg (by simp_all)]; done)
  · skip
    have p1 := e1; try simp only [nrm, bs_inj, Bool.or_eq_true, Bool.or_eq_false_iff, Bool.and_eq_true, Bool.and_eq_false_imp, decide_eq_true_eq, decide_eq_false_iff_not] at p1
    refine A.skip (A.tn (A.seq (A.region (A.goA [.p, .p, .cq (.tuple #[u_ (nrV (cdI (n * h) 1000000)), i_ (nrE (cdI (n * h) 1000000))]), .p, .p, .p, .p, .p] [(0, u_ n), (1, u_ h), (4, u_ 0), (5, i_ 0), (11, b_ (!(mayB n 0 1000000000 h))), (6, u_ (nrV (cdI (n * h) 1000000))), (7, i_ (nrE (cdI (n * h) 1000000)))] [] (fun κ => κ.call 38 [u_ n, u_ h, u_ 1000000] (.tuple #[u_ (nrV (cdI (n * h) 1000000)), i_ (nrE (cdI (n * h) 1000000))]) ∧ True) (by kernel_rfl) ⟨(fun ww ss => rup_spec n h 1000000 (by first | assumption | omega | ((have hm_ : mayB n 1 1000000000000 h = true := (by first | assumption | simp_all)); have hm2_ := may_iff.1 hm_; first | omega | exact mul_rngR (by omega) (by omega) | exact (mul_rngR (by omega) (by omega))) | ((have hm_ : mayB n 0 1000000000 h = true := (by first | assumption | simp_all)); have hm2_ := may_iff.1 hm_; first | omega | exact mul_rngR (by omega) (by omega))) (by first | assumption | omega | ((have hm_ : mayB n 1 1000000000000 h = true := (by first | assumption | simp_all)); have hm2_ := may_iff.1 hm_; first | omega | exact mul_rngR (by omega) (by omega) | exact (mul_rngR (by omega) (by omega))) | ((have hm_ : mayB n 0 1000000000 h = true := (by first | assumption | simp_all)); have hm2_ := may_iff.1 hm_; first | omega | exact mul_rngR (by omega) (by omega))) (by first | assumption | omega | ((have hm_ : mayB n 1 1000000000000 h = true := (by first | assumption | simp_all)); have hm2_ := may_iff.1 hm_; first | omega | exact mul_rngR (by omega) (by omega) | exact (mul_rngR (by omega) (by omega))) | ((have hm_ : mayB n 0 1000000000 h = true := (by first | assumption | simp_all)); have hm2_ := may_iff.1 hm_; first | omega | exact mul_rngR (by omega) (by omega))) ww), trivial⟩ ?_))))
    refine A.tn (A.seq (A.region (A.goA [.p, .p, .cq (.tuple #[u_ ((witP (nrV (cdI (n * h) 1000000)) (nrE (cdI (n * h) 1000000)) 1048576).pv), i_ ((witP (nrV (cdI (n * h) 1000000)) (nrE (cdI (n * h) 1000000)) 1048576).pe)]), .p, .p, .p, .p] [(0, u_ n), (1, u_ h), (4, u_ ((witP (nrV (cdI (n * h) 1000000)) (nrE (cdI (n * h) 1000000)) 1048576).pv)), (5, i_ ((witP (nrV (cdI (n * h) 1000000)) (nrE (cdI (n * h) 1000000)) 1048576).pe)), (11, b_ (!(mayB n 0 1000000000 h))), (6, u_ (nrV (cdI (n * h) 1000000))), (7, i_ (nrE (cdI (n * h) 1000000)))] [] (fun κ => κ.call 37 [u_ (nrV (cdI (n * h) 1000000)), i_ (nrE (cdI (n * h) 1000000)), u_ 1048576] (.tuple #[u_ ((witP (nrV (cdI (n * h) 1000000)) (nrE (cdI (n * h) 1000000)) 1048576).pv), i_ ((witP (nrV (cdI (n * h) 1000000)) (nrE (cdI (n * h) 1000000)) 1048576).pe)]) ∧ True) (by kernel_rfl) ⟨(fun ww ss => rwit_spec (nrV (cdI (n * h) 1000000)) (nrE (cdI (n * h) 1000000)) 1048576 ww), trivial⟩ ?_)))
    refine A.tn (A.ret (A.postQ [u_ ((witP (nrV (cdI (n * h) 1000000)) (nrE (cdI (n * h) 1000000)) 1048576).pv), i_ ((witP (nrV (cdI (n * h) 1000000)) (nrE (cdI (n * h) 1000000)) 1048576).pe)] (fun aa ww rr ss => ⟨rv_tmp rr rfl, rv_tmp rr rfl, trivial⟩) ?_))
    show ((.tuple #[u_ ((witP (nrV (cdI (n * h) 1000000)) (nrE (cdI (n * h) 1000000)) 1048576).pv), i_ ((witP (nrV (cdI (n * h) 1000000)) (nrE (cdI (n * h) 1000000)) 1048576).pe)]) : Value) = (.tuple #[u_ ((tkP n h).pv), i_ ((tkP n h).pe)])
    unfold tkP; first | (rw [if_pos (by simp_all)]; done) | (rw [if_neg (by simp_all)]; done)

set_option maxHeartbeats 4000000 in
set_option maxRecDepth 100000 in
theorem r43slo_spec (n h : Int) (hn : 0 ≤ n ∧ n < 18446744073709551616) (hh : 0 ≤ h ∧ h < 18446744073709551616) (w : World) :
    Calls Tryd.prog 21 #[u_ n, u_ h] w fun e w' => e = .returned (.agg #[u_ ((slP n h).pv), i_ ((slP n h).pe)]) ∧ Fr [] w w' := by
  refine calls_of (args := [u_ n, u_ h]) (penv [u_ n, u_ h]) [] [] Tryd.func21 rfl rfl (look_penv _) (HS.nil w) ?_
  refine A.norm [(0, u_ n), (1, u_ h)] [] (by exact ⟨rfl, rfl, trivial⟩) rfl ?_
  refine A.seq (A.region (A.goA1 [.al] [0, 1, 4] (fun b1 => [(0, u_ n), (1, u_ h), (4, p_ b1)]) (fun b1 => [blk b1 [u_ 0, i_ 0] 28]) (fun b1 => []) (fun _ => T0) (fun _ => by kernel_rfl) (fun b1 => trivial) ?_))
  intro b1
  refine A.tn (A.seq (A.seq (A.region (A.goA [.p, .p, .cq (b_ (mayB n 1 1000000000000 h)), .p] [(0, u_ n), (1, u_ h), (4, p_ b1), (8, b_ (!(mayB n 1 1000000000000 h)))] [] (fun κ => κ.call 39 [u_ n, u_ h] (b_ (mayB n 1 1000000000000 h)) ∧ True) (by kernel_rfl) ⟨(fun ww ss => r43rd_spec n h ww), trivial⟩ ?_))))
  refine A.tn (A.cond (E := !(mayB n 1 1000000000000 h)) rfl (fun e1 => ?_) (fun e1 => ?_))
  · skip
    have p1 := e1; try simp only [nrm, bs_inj, Bool.or_eq_true, Bool.or_eq_false_iff, Bool.and_eq_true, Bool.and_eq_false_imp, decide_eq_true_eq, decide_eq_false_iff_not] at p1
    refine A.seq (A.region (A.goAS [.p, .st 0] [(0, u_ n), (1, u_ h), (4, p_ b1), (8, b_ (!(mayB n 1 1000000000000 h)))] [blk b1 [u_ 0, i_ 1] 28] [b1] T0 (by kernel_rfl) trivial ?_))
    refine A.tn (A.ret (A.tr (A.postQ [(.agg #[u_ 0, i_ 1])] (fun aa ww rr ss => ⟨rv_cellN (vs := [u_ 0, i_ 1]) rr ss rfl (by kernel_rfl) (reads_blk (i := 0) rfl rfl), trivial⟩) ?_)))
    show ((.agg #[u_ 0, i_ 1]) : Value) = (.agg #[u_ ((slP n h).pv), i_ ((slP n h).pe)])
    unfold slP; first | (rw [if_pos (by simp_all)]; done) | (rw [if_neg (by simp_all)]; done)
  · skip
    have p1 := e1; try simp only [nrm, bs_inj, Bool.or_eq_true, Bool.or_eq_false_iff, Bool.and_eq_true, Bool.and_eq_false_imp, decide_eq_true_eq, decide_eq_false_iff_not] at p1
    refine A.skip (A.tn (A.seq (A.region (A.goAS [.p, .cq (.agg #[u_ (dA (n * 8192)), u_ (dB (n * 8192)), u_ (dC (n * 8192)), u_ (dD (n * 8192))]), .p, .cq (.agg #[u_ (nrV ((n * 8192) / h)), i_ (nrE ((n * 8192) / h))]), .cq (.agg #[u_ ((witP (nrV ((n * 8192) / h)) (nrE ((n * 8192) / h)) 4294967295).pv), i_ ((witP (nrV ((n * 8192) / h)) (nrE ((n * 8192) / h)) 4294967295).pe)]), .st 0] [(0, u_ n), (1, u_ h), (4, p_ b1), (8, b_ (!(mayB n 1 1000000000000 h)))] [blk b1 [u_ ((witP (nrV ((n * 8192) / h)) (nrE ((n * 8192) / h)) 4294967295).pv), i_ ((witP (nrV ((n * 8192) / h)) (nrE ((n * 8192) / h)) 4294967295).pe)] 28] [b1] (fun κ => κ.call 24 [u_ n, u_ 8192] (.agg #[u_ (dA (n * 8192)), u_ (dB (n * 8192)), u_ (dC (n * 8192)), u_ (dD (n * 8192))]) ∧ κ.call 41 [(.agg #[u_ (dA (n * 8192)), u_ (dB (n * 8192)), u_ (dC (n * 8192)), u_ (dD (n * 8192))]), u_ h] (.agg #[u_ (nrV ((n * 8192) / h)), i_ (nrE ((n * 8192) / h))]) ∧ κ.call 40 [(.agg #[u_ (nrV ((n * 8192) / h)), i_ (nrE ((n * 8192) / h))]), u_ 4294967295] (.agg #[u_ ((witP (nrV ((n * 8192) / h)) (nrE ((n * 8192) / h)) 4294967295).pv), i_ ((witP (nrV ((n * 8192) / h)) (nrE ((n * 8192) / h)) 4294967295).pe)]) ∧ True) (by kernel_rfl) ⟨(fun ww ss => rMul_spec n 8192 (by first | assumption | omega | ((have hm_ : mayB n 1 1000000000000 h = true := (by first | assumption | simp_all)); have hm2_ := may_iff.1 hm_; first | omega | exact mul_rngR (by omega) (by omega) | exact (mul_rngR (by omega) (by omega))) | ((have hm_ : mayB n 0 1000000000 h = true := (by first | assumption | simp_all)); have hm2_ := may_iff.1 hm_; first | omega | exact mul_rngR (by omega) (by omega))) (by first | assumption | omega | ((have hm_ : mayB n 1 1000000000000 h = true := (by first | assumption | simp_all)); have hm2_ := may_iff.1 hm_; first | omega | exact mul_rngR (by omega) (by omega) | exact (mul_rngR (by omega) (by omega))) | ((have hm_ : mayB n 0 1000000000 h = true := (by first | assumption | simp_all)); have hm2_ := may_iff.1 hm_; first | omega | exact mul_rngR (by omega) (by omega))) ww), (fun ww ss => r2fl_spec (n * 8192) h (by first | assumption | omega | ((have hm_ : mayB n 1 1000000000000 h = true := (by first | assumption | simp_all)); have hm2_ := may_iff.1 hm_; first | omega | exact mul_rngR (by omega) (by omega) | exact (mul_rngR (by omega) (by omega))) | ((have hm_ : mayB n 0 1000000000 h = true := (by first | assumption | simp_all)); have hm2_ := may_iff.1 hm_; first | omega | exact mul_rngR (by omega) (by omega))) (by first | assumption | omega | ((have hm_ : mayB n 1 1000000000000 h = true := (by first | assumption | simp_all)); have hm2_ := may_iff.1 hm_; first | omega | exact mul_rngR (by omega) (by omega) | exact (mul_rngR (by omega) (by omega))) | ((have hm_ : mayB n 0 1000000000 h = true := (by first | assumption | simp_all)); have hm2_ := may_iff.1 hm_; first | omega | exact mul_rngR (by omega) (by omega))) ww), (fun ww ss => r43ov_spec (nrV ((n * 8192) / h)) (nrE ((n * 8192) / h)) 4294967295 ww), trivial⟩ ?_))))
    refine A.tn (A.ret (A.postQ [(.agg #[u_ ((witP (nrV ((n * 8192) / h)) (nrE ((n * 8192) / h)) 4294967295).pv), i_ ((witP (nrV ((n * 8192) / h)) (nrE ((n * 8192) / h)) 4294967295).pe)])] (fun aa ww rr ss => ⟨rv_cellN (vs := [u_ ((witP (nrV ((n * 8192) / h)) (nrE ((n * 8192) / h)) 4294967295).pv), i_ ((witP (nrV ((n * 8192) / h)) (nrE ((n * 8192) / h)) 4294967295).pe)]) rr ss rfl (by kernel_rfl) (reads_blk (i := 0) rfl rfl), trivial⟩) ?_))
    show ((.agg #[u_ ((witP (nrV ((n * 8192) / h)) (nrE ((n * 8192) / h)) 4294967295).pv), i_ ((witP (nrV ((n * 8192) / h)) (nrE ((n * 8192) / h)) 4294967295).pe)]) : Value) = (.agg #[u_ ((slP n h).pv), i_ ((slP n h).pe)])
    unfold slP; first | (rw [if_pos (by simp_all)]; done) | (rw [if_neg (by simp_all)]; done)

set_option maxHeartbeats 4000000 in
set_option maxRecDepth 100000 in
theorem r43tik_spec (n h : Int) (hn : 0 ≤ n ∧ n < 18446744073709551616) (hh : 0 ≤ h ∧ h < 18446744073709551616) (w : World) :
    Calls Tryd.prog 22 #[u_ n, u_ h] w fun e w' => e = .returned (.agg #[u_ ((tkP n h).pv), i_ ((tkP n h).pe)]) ∧ Fr [] w w' := by
  refine calls_of (args := [u_ n, u_ h]) (penv [u_ n, u_ h]) [] [] Tryd.func22 rfl rfl (look_penv _) (HS.nil w) ?_
  refine A.norm [(0, u_ n), (1, u_ h)] [] (by exact ⟨rfl, rfl, trivial⟩) rfl ?_
  refine A.seq (A.region (A.goA1 [.al] [0, 1, 4] (fun b1 => [(0, u_ n), (1, u_ h), (4, p_ b1)]) (fun b1 => [blk b1 [u_ 0, i_ 0] 28]) (fun b1 => []) (fun _ => T0) (fun _ => by kernel_rfl) (fun b1 => trivial) ?_))
  intro b1
  refine A.tn (A.seq (A.seq (A.region (A.goA [.p, .p, .p, .o, .p, .p, .cl, .p, .o, .p, .p, .cl] [(0, u_ n), (1, u_ h), (4, p_ b1), (14, b_ (((decide (n > 1000000000)) || (decide (h < 1))) || (decide (h > 1000000000))))] [] T0 (by kernel_rfl) trivial ?_))))
  refine A.tn (A.cond (E := ((decide (n > 1000000000)) || (decide (h < 1))) || (decide (h > 1000000000))) rfl (fun e1 => ?_) (fun e1 => ?_))
  · skip
    have p1 := e1; try simp only [nrm, bs_inj, Bool.or_eq_true, Bool.or_eq_false_iff, Bool.and_eq_true, Bool.and_eq_false_imp, decide_eq_true_eq, decide_eq_false_iff_not] at p1
    refine A.seq (A.region (A.goAS [.p, .st 0] [(0, u_ n), (1, u_ h), (4, p_ b1), (14, b_ (((decide (n > 1000000000)) || (decide (h < 1))) || (decide (h > 1000000000))))] [blk b1 [u_ 0, i_ 1] 28] [b1] T0 (by kernel_rfl) trivial ?_))
    refine A.tn (A.ret (A.tr (A.postQ [(.agg #[u_ 0, i_ 1])] (fun aa ww rr ss => ⟨rv_cellN (vs := [u_ 0, i_ 1]) rr ss rfl (by kernel_rfl) (reads_blk (i := 0) rfl rfl), trivial⟩) ?_)))
    show ((.agg #[u_ 0, i_ 1]) : Value) = (.agg #[u_ ((tkP n h).pv), i_ ((tkP n h).pe)])
    unfold tkP; first | (rw [if_pos (may_iff.2 (by omega))]; done) | (rw [if_neg (fun h_ => by have h2_ := may_iff.1 h_; omega)]; done)
  · skip
    have p1 := e1; try simp only [nrm, bs_inj, Bool.or_eq_true, Bool.or_eq_false_iff, Bool.and_eq_true, Bool.and_eq_false_imp, decide_eq_true_eq, decide_eq_false_iff_not] at p1
    refine A.skip (A.tn (A.seq (A.region (A.goAS [.p, .p, .cq (.agg #[u_ (dA (n * h)), u_ (dB (n * h)), u_ (dC (n * h)), u_ (dD (n * h))]), .cq (.agg #[u_ (nrV (cdI (n * h) 1000000)), i_ (nrE (cdI (n * h) 1000000))]), .cq (.agg #[u_ ((witP (nrV (cdI (n * h) 1000000)) (nrE (cdI (n * h) 1000000)) 1048576).pv), i_ ((witP (nrV (cdI (n * h) 1000000)) (nrE (cdI (n * h) 1000000)) 1048576).pe)]), .st 0] [(0, u_ n), (1, u_ h), (4, p_ b1), (14, b_ (((decide (n > 1000000000)) || (decide (h < 1))) || (decide (h > 1000000000))))] [blk b1 [u_ ((witP (nrV (cdI (n * h) 1000000)) (nrE (cdI (n * h) 1000000)) 1048576).pv), i_ ((witP (nrV (cdI (n * h) 1000000)) (nrE (cdI (n * h) 1000000)) 1048576).pe)] 28] [b1] (fun κ => κ.call 24 [u_ n, u_ h] (.agg #[u_ (dA (n * h)), u_ (dB (n * h)), u_ (dC (n * h)), u_ (dD (n * h))]) ∧ κ.call 42 [(.agg #[u_ (dA (n * h)), u_ (dB (n * h)), u_ (dC (n * h)), u_ (dD (n * h))]), u_ 1000000] (.agg #[u_ (nrV (cdI (n * h) 1000000)), i_ (nrE (cdI (n * h) 1000000))]) ∧ κ.call 40 [(.agg #[u_ (nrV (cdI (n * h) 1000000)), i_ (nrE (cdI (n * h) 1000000))]), u_ 1048576] (.agg #[u_ ((witP (nrV (cdI (n * h) 1000000)) (nrE (cdI (n * h) 1000000)) 1048576).pv), i_ ((witP (nrV (cdI (n * h) 1000000)) (nrE (cdI (n * h) 1000000)) 1048576).pe)]) ∧ True) (by kernel_rfl) ⟨(fun ww ss => rMul_spec n h (by first | omega | exact mul_rngR (by omega) (by omega)) (by first | omega | exact mul_rngR (by omega) (by omega)) ww), (fun ww ss => r2ce_spec (n * h) 1000000 (by first | omega | exact mul_rngR (by omega) (by omega)) (by first | omega | exact mul_rngR (by omega) (by omega)) ww), (fun ww ss => r43ov_spec (nrV (cdI (n * h) 1000000)) (nrE (cdI (n * h) 1000000)) 1048576 ww), trivial⟩ ?_))))
    refine A.tn (A.ret (A.postQ [(.agg #[u_ ((witP (nrV (cdI (n * h) 1000000)) (nrE (cdI (n * h) 1000000)) 1048576).pv), i_ ((witP (nrV (cdI (n * h) 1000000)) (nrE (cdI (n * h) 1000000)) 1048576).pe)])] (fun aa ww rr ss => ⟨rv_cellN (vs := [u_ ((witP (nrV (cdI (n * h) 1000000)) (nrE (cdI (n * h) 1000000)) 1048576).pv), i_ ((witP (nrV (cdI (n * h) 1000000)) (nrE (cdI (n * h) 1000000)) 1048576).pe)]) rr ss rfl (by kernel_rfl) (reads_blk (i := 0) rfl rfl), trivial⟩) ?_))
    show ((.agg #[u_ ((witP (nrV (cdI (n * h) 1000000)) (nrE (cdI (n * h) 1000000)) 1048576).pv), i_ ((witP (nrV (cdI (n * h) 1000000)) (nrE (cdI (n * h) 1000000)) 1048576).pe)]) : Value) = (.agg #[u_ ((tkP n h).pv), i_ ((tkP n h).pe)])
    unfold tkP; first | (rw [if_pos (may_iff.2 (by omega))]; done) | (rw [if_neg (fun h_ => by have h2_ := may_iff.1 h_; omega)]; done)

set_option maxHeartbeats 4000000 in
set_option maxRecDepth 100000 in
theorem rbyt_spec (n h : Int) (hn : 0 ≤ n ∧ n < 18446744073709551616) (hh : 0 ≤ h ∧ h < 18446744073709551616) (w : World) :
    Calls Tryd.prog 20 #[u_ n, u_ h] w fun e w' => e = .returned (.tuple #[i_ ((byP n h).pv), i_ ((byP n h).pe)]) ∧ Fr [] w w' := by
  refine calls_of (args := [u_ n, u_ h]) (penv [u_ n, u_ h]) [] [] Tryd.func20 rfl rfl (look_penv _) (HS.nil w) ?_
  refine A.norm [(0, u_ n), (1, u_ h)] [] (by exact ⟨rfl, rfl, trivial⟩) rfl ?_
  refine A.seq (A.region (A.goA [.p, .p] [(0, u_ n), (1, u_ h), (4, i_ 0), (5, i_ 0)] [] T0 (by kernel_rfl) trivial ?_))
  refine A.tn (A.seq (A.seq (A.region (A.goA [.p, .p, .cq (b_ (mayB n 1 1000000000000 h)), .p] [(0, u_ n), (1, u_ h), (4, i_ 0), (5, i_ 0), (11, b_ (!(mayB n 1 1000000000000 h)))] [] (fun κ => κ.call 35 [u_ n, u_ 1, u_ 1000000000000, u_ h] (b_ (mayB n 1 1000000000000 h)) ∧ True) (by kernel_rfl) ⟨(fun ww ss => rmay_spec n 1 1000000000000 h ww), trivial⟩ ?_))))
  refine A.tn (A.cond (E := !(mayB n 1 1000000000000 h)) rfl (fun e1 => ?_) (fun e1 => ?_))
  · skip
    have p1 := e1; try simp only [nrm, bs_inj, Bool.or_eq_true, Bool.or_eq_false_iff, Bool.and_eq_true, Bool.and_eq_false_imp, decide_eq_true_eq, decide_eq_false_iff_not] at p1
    refine A.seq (A.region (A.goA [.p, .p] [(0, u_ n), (1, u_ h), (4, i_ 0), (5, i_ 1), (11, b_ (!(mayB n 1 1000000000000 h)))] [] T0 (by kernel_rfl) trivial ?_))
    refine A.tn (A.ret (A.tr (A.postQ [i_ 0, i_ 1] (fun aa ww rr ss => ⟨rv_tmp rr rfl, rv_tmp rr rfl, trivial⟩) ?_)))
    show ((.tuple #[i_ 0, i_ 1]) : Value) = (.tuple #[i_ ((byP n h).pv), i_ ((byP n h).pe)])
    unfold byP; first | (rw [if_pos (by simp_all)]; done) | (rw [if_neg (by simp_all)]; done)
  · skip
    have p1 := e1; try simp only [nrm, bs_inj, Bool.or_eq_true, Bool.or_eq_false_iff, Bool.and_eq_true, Bool.and_eq_false_imp, decide_eq_true_eq, decide_eq_false_iff_not] at p1
    refine A.skip (A.tn (A.seq (A.region (A.goA [.p, .p, .cq (.tuple #[u_ (nrV (cdI (8 * h) n)), i_ (nrE (cdI (8 * h) n))]), .p, .p, .p, .p, .p] [(0, u_ n), (1, u_ h), (4, i_ 0), (5, i_ 0), (11, b_ (!(mayB n 1 1000000000000 h))), (6, u_ (nrV (cdI (8 * h) n))), (7, i_ (nrE (cdI (8 * h) n)))] [] (fun κ => κ.call 38 [u_ 8, u_ h, u_ n] (.tuple #[u_ (nrV (cdI (8 * h) n)), i_ (nrE (cdI (8 * h) n))]) ∧ True) (by kernel_rfl) ⟨(fun ww ss => rup_spec 8 h n (by first | assumption | omega | ((have hm_ : mayB n 1 1000000000000 h = true := (by first | assumption | simp_all)); have hm2_ := may_iff.1 hm_; first | omega | exact mul_rngR (by omega) (by omega) | exact (mul_rngR (by omega) (by omega))) | ((have hm_ : mayB n 0 1000000000 h = true := (by first | assumption | simp_all)); have hm2_ := may_iff.1 hm_; first | omega | exact mul_rngR (by omega) (by omega))) (by first | assumption | omega | ((have hm_ : mayB n 1 1000000000000 h = true := (by first | assumption | simp_all)); have hm2_ := may_iff.1 hm_; first | omega | exact mul_rngR (by omega) (by omega) | exact (mul_rngR (by omega) (by omega))) | ((have hm_ : mayB n 0 1000000000 h = true := (by first | assumption | simp_all)); have hm2_ := may_iff.1 hm_; first | omega | exact mul_rngR (by omega) (by omega))) (by first | assumption | omega | ((have hm_ : mayB n 1 1000000000000 h = true := (by first | assumption | simp_all)); have hm2_ := may_iff.1 hm_; first | omega | exact mul_rngR (by omega) (by omega) | exact (mul_rngR (by omega) (by omega))) | ((have hm_ : mayB n 0 1000000000 h = true := (by first | assumption | simp_all)); have hm2_ := may_iff.1 hm_; first | omega | exact mul_rngR (by omega) (by omega))) ww), trivial⟩ ?_))))
    refine A.tn (A.seq (A.region (A.goA [.p, .p, .cq (.tuple #[u_ ((witP (nrV (cdI (8 * h) n)) (nrE (cdI (8 * h) n)) 65536).pv), i_ ((witP (nrV (cdI (8 * h) n)) (nrE (cdI (8 * h) n)) 65536).pe)]), .p, .p, .p, .p, .p] [(0, u_ n), (1, u_ h), (4, i_ 0), (5, i_ 0), (11, b_ (!(mayB n 1 1000000000000 h))), (6, u_ ((witP (nrV (cdI (8 * h) n)) (nrE (cdI (8 * h) n)) 65536).pv)), (7, i_ ((witP (nrV (cdI (8 * h) n)) (nrE (cdI (8 * h) n)) 65536).pe))] [] (fun κ => κ.call 37 [u_ (nrV (cdI (8 * h) n)), i_ (nrE (cdI (8 * h) n)), u_ 65536] (.tuple #[u_ ((witP (nrV (cdI (8 * h) n)) (nrE (cdI (8 * h) n)) 65536).pv), i_ ((witP (nrV (cdI (8 * h) n)) (nrE (cdI (8 * h) n)) 65536).pe)]) ∧ True) (by kernel_rfl) ⟨(fun ww ss => rwit_spec (nrV (cdI (8 * h) n)) (nrE (cdI (8 * h) n)) 65536 ww), trivial⟩ ?_)))
    refine A.tn (A.seq (A.region (A.goA [.p, .w ((witP (nrV (cdI (8 * h) n)) (nrE (cdI (8 * h) n)) 65536).pv), .p, .p, .p] [(0, u_ n), (1, u_ h), (4, i_ ((witP (nrV (cdI (8 * h) n)) (nrE (cdI (8 * h) n)) 65536).pv)), (5, i_ ((witP (nrV (cdI (8 * h) n)) (nrE (cdI (8 * h) n)) 65536).pe)), (11, b_ (!(mayB n 1 1000000000000 h))), (6, u_ ((witP (nrV (cdI (8 * h) n)) (nrE (cdI (8 * h) n)) 65536).pv)), (7, i_ ((witP (nrV (cdI (8 * h) n)) (nrE (cdI (8 * h) n)) 65536).pe))] [] (fun κ => (IntKind.i64.wrap ((witP (nrV (cdI (8 * h) n)) (nrE (cdI (8 * h) n)) 65536).pv) = ((witP (nrV (cdI (8 * h) n)) (nrE (cdI (8 * h) n)) 65536).pv)) ∧ True) (by kernel_rfl) ⟨(wrap_i64 (e := (witP (nrV (cdI (8 * h) n)) (nrE (cdI (8 * h) n)) 65536).pv) (by (have hb_ := byP_rng n h; unfold byP at hb_; rw [if_pos (by simp_all)] at hb_; constructor <;> omega))), trivial⟩ ?_)))
    refine A.tn (A.ret (A.postQ [i_ ((witP (nrV (cdI (8 * h) n)) (nrE (cdI (8 * h) n)) 65536).pv), i_ ((witP (nrV (cdI (8 * h) n)) (nrE (cdI (8 * h) n)) 65536).pe)] (fun aa ww rr ss => ⟨rv_tmp rr rfl, rv_tmp rr rfl, trivial⟩) ?_))
    show ((.tuple #[i_ ((witP (nrV (cdI (8 * h) n)) (nrE (cdI (8 * h) n)) 65536).pv), i_ ((witP (nrV (cdI (8 * h) n)) (nrE (cdI (8 * h) n)) 65536).pe)]) : Value) = (.tuple #[i_ ((byP n h).pv), i_ ((byP n h).pe)])
    unfold byP; first | (rw [if_pos (by simp_all)]; done) | (rw [if_neg (by simp_all)]; done)

set_option maxHeartbeats 4000000 in
set_option maxRecDepth 100000 in
theorem r43byt_spec (n h : Int) (hn : 0 ≤ n ∧ n < 18446744073709551616) (hh : 0 ≤ h ∧ h < 18446744073709551616) (w : World) :
    Calls Tryd.prog 23 #[u_ n, u_ h] w fun e w' => e = .returned (.agg #[u_ ((byP n h).pv), i_ ((byP n h).pe)]) ∧ Fr [] w w' := by
  refine calls_of (args := [u_ n, u_ h]) (penv [u_ n, u_ h]) [] [] Tryd.func23 rfl rfl (look_penv _) (HS.nil w) ?_
  refine A.norm [(0, u_ n), (1, u_ h)] [] (by exact ⟨rfl, rfl, trivial⟩) rfl ?_
  refine A.seq (A.region (A.goA1 [.al] [0, 1, 4] (fun b1 => [(0, u_ n), (1, u_ h), (4, p_ b1)]) (fun b1 => [blk b1 [u_ 0, i_ 0] 28]) (fun b1 => []) (fun _ => T0) (fun _ => by kernel_rfl) (fun b1 => trivial) ?_))
  intro b1
  refine A.tn (A.seq (A.seq (A.region (A.goA [.p, .p, .cq (b_ (mayB n 1 1000000000000 h)), .p] [(0, u_ n), (1, u_ h), (4, p_ b1), (8, b_ (!(mayB n 1 1000000000000 h)))] [] (fun κ => κ.call 39 [u_ n, u_ h] (b_ (mayB n 1 1000000000000 h)) ∧ True) (by kernel_rfl) ⟨(fun ww ss => r43rd_spec n h ww), trivial⟩ ?_))))
  refine A.tn (A.cond (E := !(mayB n 1 1000000000000 h)) rfl (fun e1 => ?_) (fun e1 => ?_))
  · skip
    have p1 := e1; try simp only [nrm, bs_inj, Bool.or_eq_true, Bool.or_eq_false_iff, Bool.and_eq_true, Bool.and_eq_false_imp, decide_eq_true_eq, decide_eq_false_iff_not] at p1
    refine A.seq (A.region (A.goAS [.p, .st 0] [(0, u_ n), (1, u_ h), (4, p_ b1), (8, b_ (!(mayB n 1 1000000000000 h)))] [blk b1 [u_ 0, i_ 1] 28] [b1] T0 (by kernel_rfl) trivial ?_))
    refine A.tn (A.ret (A.tr (A.postQ [(.agg #[u_ 0, i_ 1])] (fun aa ww rr ss => ⟨rv_cellN (vs := [u_ 0, i_ 1]) rr ss rfl (by kernel_rfl) (reads_blk (i := 0) rfl rfl), trivial⟩) ?_)))
    show ((.agg #[u_ 0, i_ 1]) : Value) = (.agg #[u_ ((byP n h).pv), i_ ((byP n h).pe)])
    unfold byP; first | (rw [if_pos (by simp_all)]; done) | (rw [if_neg (by simp_all)]; done)
  · skip
    have p1 := e1; try simp only [nrm, bs_inj, Bool.or_eq_true, Bool.or_eq_false_iff, Bool.and_eq_true, Bool.and_eq_false_imp, decide_eq_true_eq, decide_eq_false_iff_not] at p1
    refine A.skip (A.tn (A.seq (A.region (A.goAS [.p, .cq (.agg #[u_ (dA (8 * h)), u_ (dB (8 * h)), u_ (dC (8 * h)), u_ (dD (8 * h))]), .p, .cq (.agg #[u_ (nrV (cdI (8 * h) n)), i_ (nrE (cdI (8 * h) n))]), .cq (.agg #[u_ ((witP (nrV (cdI (8 * h) n)) (nrE (cdI (8 * h) n)) 65536).pv), i_ ((witP (nrV (cdI (8 * h) n)) (nrE (cdI (8 * h) n)) 65536).pe)]), .st 0] [(0, u_ n), (1, u_ h), (4, p_ b1), (8, b_ (!(mayB n 1 1000000000000 h)))] [blk b1 [u_ ((witP (nrV (cdI (8 * h) n)) (nrE (cdI (8 * h) n)) 65536).pv), i_ ((witP (nrV (cdI (8 * h) n)) (nrE (cdI (8 * h) n)) 65536).pe)] 28] [b1] (fun κ => κ.call 24 [u_ 8, u_ h] (.agg #[u_ (dA (8 * h)), u_ (dB (8 * h)), u_ (dC (8 * h)), u_ (dD (8 * h))]) ∧ κ.call 42 [(.agg #[u_ (dA (8 * h)), u_ (dB (8 * h)), u_ (dC (8 * h)), u_ (dD (8 * h))]), u_ n] (.agg #[u_ (nrV (cdI (8 * h) n)), i_ (nrE (cdI (8 * h) n))]) ∧ κ.call 40 [(.agg #[u_ (nrV (cdI (8 * h) n)), i_ (nrE (cdI (8 * h) n))]), u_ 65536] (.agg #[u_ ((witP (nrV (cdI (8 * h) n)) (nrE (cdI (8 * h) n)) 65536).pv), i_ ((witP (nrV (cdI (8 * h) n)) (nrE (cdI (8 * h) n)) 65536).pe)]) ∧ True) (by kernel_rfl) ⟨(fun ww ss => rMul_spec 8 h (by first | assumption | omega | ((have hm_ : mayB n 1 1000000000000 h = true := (by first | assumption | simp_all)); have hm2_ := may_iff.1 hm_; first | omega | exact mul_rngR (by omega) (by omega) | exact (mul_rngR (by omega) (by omega))) | ((have hm_ : mayB n 0 1000000000 h = true := (by first | assumption | simp_all)); have hm2_ := may_iff.1 hm_; first | omega | exact mul_rngR (by omega) (by omega))) (by first | assumption | omega | ((have hm_ : mayB n 1 1000000000000 h = true := (by first | assumption | simp_all)); have hm2_ := may_iff.1 hm_; first | omega | exact mul_rngR (by omega) (by omega) | exact (mul_rngR (by omega) (by omega))) | ((have hm_ : mayB n 0 1000000000 h = true := (by first | assumption | simp_all)); have hm2_ := may_iff.1 hm_; first | omega | exact mul_rngR (by omega) (by omega))) ww), (fun ww ss => r2ce_spec (8 * h) n (by first | assumption | omega | ((have hm_ : mayB n 1 1000000000000 h = true := (by first | assumption | simp_all)); have hm2_ := may_iff.1 hm_; first | omega | exact mul_rngR (by omega) (by omega) | exact (mul_rngR (by omega) (by omega))) | ((have hm_ : mayB n 0 1000000000 h = true := (by first | assumption | simp_all)); have hm2_ := may_iff.1 hm_; first | omega | exact mul_rngR (by omega) (by omega))) (by first | assumption | omega | ((have hm_ : mayB n 1 1000000000000 h = true := (by first | assumption | simp_all)); have hm2_ := may_iff.1 hm_; first | omega | exact mul_rngR (by omega) (by omega) | exact (mul_rngR (by omega) (by omega))) | ((have hm_ : mayB n 0 1000000000 h = true := (by first | assumption | simp_all)); have hm2_ := may_iff.1 hm_; first | omega | exact mul_rngR (by omega) (by omega))) ww), (fun ww ss => r43ov_spec (nrV (cdI (8 * h) n)) (nrE (cdI (8 * h) n)) 65536 ww), trivial⟩ ?_))))
    refine A.tn (A.ret (A.postQ [(.agg #[u_ ((witP (nrV (cdI (8 * h) n)) (nrE (cdI (8 * h) n)) 65536).pv), i_ ((witP (nrV (cdI (8 * h) n)) (nrE (cdI (8 * h) n)) 65536).pe)])] (fun aa ww rr ss => ⟨rv_cellN (vs := [u_ ((witP (nrV (cdI (8 * h) n)) (nrE (cdI (8 * h) n)) 65536).pv), i_ ((witP (nrV (cdI (8 * h) n)) (nrE (cdI (8 * h) n)) 65536).pe)]) rr ss rfl (by kernel_rfl) (reads_blk (i := 0) rfl rfl), trivial⟩) ?_))
    show ((.agg #[u_ ((witP (nrV (cdI (8 * h) n)) (nrE (cdI (8 * h) n)) 65536).pv), i_ ((witP (nrV (cdI (8 * h) n)) (nrE (cdI (8 * h) n)) 65536).pe)]) : Value) = (.agg #[u_ ((byP n h).pv), i_ ((byP n h).pe)])
    unfold byP; first | (rw [if_pos (by simp_all)]; done) | (rw [if_neg (by simp_all)]; done)

set_option maxHeartbeats 4000000 in
set_option maxRecDepth 100000 in
theorem rslf_spec (l : List UInt8) (h : Int) (hl : l.length ≤ 1000) (hh : 0 ≤ h ∧ h < 18446744073709551616) (w : World) :
    Calls Tryd.prog 46 #[s_ (bs l), u_ h] w fun e w' => e = .returned (.tuple #[u_ ((slS l h).pv), i_ ((slS l h).pe)]) ∧ Fr [] w w' := by
  have hr := rateP_rng l; have ht := timeP_rng l
  refine calls_of (args := [s_ (bs l), u_ h]) (penv [s_ (bs l), u_ h]) [] [] Tryd.func46 rfl rfl (look_penv _) (HS.nil w) ?_
  refine A.norm [(0, s_ (bs l)), (1, u_ h)] [] (by exact ⟨rfl, rfl, trivial⟩) rfl ?_
  refine A.seq (A.region (A.goA [.p, .p] [(0, s_ (bs l)), (1, u_ h), (4, u_ 0), (5, i_ 0)] [] T0 (by kernel_rfl) trivial ?_))
  refine A.tn (A.seq (A.region (A.goA [.p, .cq (.tuple #[u_ ((rateP l).pv), i_ ((rateP l).pe)]), .p, .p, .p, .p, .p] [(0, s_ (bs l)), (1, u_ h), (4, u_ 0), (5, i_ 0), (6, u_ ((rateP l).pv)), (7, i_ ((rateP l).pe))] [] (fun κ => κ.call 10 [s_ (bs l)] (.tuple #[u_ ((rateP l).pv), i_ ((rateP l).pe)]) ∧ True) (by kernel_rfl) ⟨(fun ww ss => rrate_spec l (by first | assumption | omega | (simp; omega)) ww), trivial⟩ ?_)))
  refine A.tn (A.seq (A.seq (A.region (A.goA [.p, .p] [(0, s_ (bs l)), (1, u_ h), (4, u_ 0), (5, i_ 0), (6, u_ ((rateP l).pv)), (7, i_ ((rateP l).pe)), (14, b_ (((rateP l).pe) != 0))] [] T0 (by kernel_rfl) trivial ?_))))
  refine A.tn (A.cond (E := ((rateP l).pe) != 0) rfl (fun e1 => ?_) (fun e1 => ?_))
  · skip
    have p1 := e1; try simp only [nrm, bs_inj, Bool.or_eq_true, Bool.or_eq_false_iff, Bool.and_eq_true, Bool.and_eq_false_imp, decide_eq_true_eq, decide_eq_false_iff_not] at p1
    refine A.seq (A.region (A.goA [.p, .p, .p] [(0, s_ (bs l)), (1, u_ h), (4, u_ 0), (5, i_ ((rateP l).pe)), (6, u_ ((rateP l).pv)), (7, i_ ((rateP l).pe)), (14, b_ (((rateP l).pe) != 0))] [] T0 (by kernel_rfl) trivial ?_))
    refine A.tn (A.ret (A.tr (A.postQ [u_ 0, i_ ((rateP l).pe)] (fun aa ww rr ss => ⟨rv_tmp rr rfl, rv_tmp rr rfl, trivial⟩) ?_)))
    show ((.tuple #[u_ 0, i_ ((rateP l).pe)]) : Value) = (.tuple #[u_ ((slS l h).pv), i_ ((slS l h).pe)])
    unfold slS; first | (rw [if_pos (by simp_all)]; done) | (rw [if_neg (by simp_all)]; done)
  · skip
    have p1 := e1; try simp only [nrm, bs_inj, Bool.or_eq_true, Bool.or_eq_false_iff, Bool.and_eq_true, Bool.and_eq_false_imp, decide_eq_true_eq, decide_eq_false_iff_not] at p1
    refine A.skip (A.tn (A.seq (A.region (A.goA [.p, .p, .cq (.tuple #[u_ ((slP ((rateP l).pv) h).pv), i_ ((slP ((rateP l).pv) h).pe)]), .p, .p, .p, .p] [(0, s_ (bs l)), (1, u_ h), (4, u_ ((slP ((rateP l).pv) h).pv)), (5, i_ ((slP ((rateP l).pv) h).pe)), (6, u_ ((rateP l).pv)), (7, i_ ((rateP l).pe)), (14, b_ (((rateP l).pe) != 0))] [] (fun κ => κ.call 18 [u_ ((rateP l).pv), u_ h] (.tuple #[u_ ((slP ((rateP l).pv) h).pv), i_ ((slP ((rateP l).pv) h).pe)]) ∧ True) (by kernel_rfl) ⟨(fun ww ss => rslo_spec ((rateP l).pv) h (by first | assumption | omega | (simp; omega)) (by first | assumption | omega | (simp; omega)) ww), trivial⟩ ?_))))
    refine A.tn (A.ret (A.postQ [u_ ((slP ((rateP l).pv) h).pv), i_ ((slP ((rateP l).pv) h).pe)] (fun aa ww rr ss => ⟨rv_tmp rr rfl, rv_tmp rr rfl, trivial⟩) ?_))
    show ((.tuple #[u_ ((slP ((rateP l).pv) h).pv), i_ ((slP ((rateP l).pv) h).pe)]) : Value) = (.tuple #[u_ ((slS l h).pv), i_ ((slS l h).pe)])
    unfold slS; first | (rw [if_pos (by simp_all)]; done) | (rw [if_neg (by simp_all)]; done)

set_option maxHeartbeats 4000000 in
set_option maxRecDepth 100000 in
theorem rtkf_spec (l : List UInt8) (h : Int) (hl : l.length ≤ 1000) (hh : 0 ≤ h ∧ h < 18446744073709551616) (w : World) :
    Calls Tryd.prog 47 #[s_ (bs l), u_ h] w fun e w' => e = .returned (.tuple #[u_ ((tkS l h).pv), i_ ((tkS l h).pe)]) ∧ Fr [] w w' := by
  have hr := rateP_rng l; have ht := timeP_rng l
  refine calls_of (args := [s_ (bs l), u_ h]) (penv [s_ (bs l), u_ h]) [] [] Tryd.func47 rfl rfl (look_penv _) (HS.nil w) ?_
  refine A.norm [(0, s_ (bs l)), (1, u_ h)] [] (by exact ⟨rfl, rfl, trivial⟩) rfl ?_
  refine A.seq (A.region (A.goA [.p, .p] [(0, s_ (bs l)), (1, u_ h), (4, u_ 0), (5, i_ 0)] [] T0 (by kernel_rfl) trivial ?_))
  refine A.tn (A.seq (A.region (A.goA [.p, .cq (.tuple #[u_ ((timeP l).pv), i_ ((timeP l).pe)]), .p, .p, .p, .p, .p] [(0, s_ (bs l)), (1, u_ h), (4, u_ 0), (5, i_ 0), (6, u_ ((timeP l).pv)), (7, i_ ((timeP l).pe))] [] (fun κ => κ.call 11 [s_ (bs l)] (.tuple #[u_ ((timeP l).pv), i_ ((timeP l).pe)]) ∧ True) (by kernel_rfl) ⟨(fun ww ss => rtime_spec l (by first | assumption | omega | (simp; omega)) ww), trivial⟩ ?_)))
  refine A.tn (A.seq (A.seq (A.region (A.goA [.p, .p] [(0, s_ (bs l)), (1, u_ h), (4, u_ 0), (5, i_ 0), (6, u_ ((timeP l).pv)), (7, i_ ((timeP l).pe)), (14, b_ (((timeP l).pe) != 0))] [] T0 (by kernel_rfl) trivial ?_))))
  refine A.tn (A.cond (E := ((timeP l).pe) != 0) rfl (fun e1 => ?_) (fun e1 => ?_))
  · skip
    have p1 := e1; try simp only [nrm, bs_inj, Bool.or_eq_true, Bool.or_eq_false_iff, Bool.and_eq_true, Bool.and_eq_false_imp, decide_eq_true_eq, decide_eq_false_iff_not] at p1
    refine A.seq (A.region (A.goA [.p, .p, .p] [(0, s_ (bs l)), (1, u_ h), (4, u_ 0), (5, i_ ((timeP l).pe)), (6, u_ ((timeP l).pv)), (7, i_ ((timeP l).pe)), (14, b_ (((timeP l).pe) != 0))] [] T0 (by kernel_rfl) trivial ?_))
    refine A.tn (A.ret (A.tr (A.postQ [u_ 0, i_ ((timeP l).pe)] (fun aa ww rr ss => ⟨rv_tmp rr rfl, rv_tmp rr rfl, trivial⟩) ?_)))
    show ((.tuple #[u_ 0, i_ ((timeP l).pe)]) : Value) = (.tuple #[u_ ((tkS l h).pv), i_ ((tkS l h).pe)])
    unfold tkS; first | (rw [if_pos (by simp_all)]; done) | (rw [if_neg (by simp_all)]; done)
  · skip
    have p1 := e1; try simp only [nrm, bs_inj, Bool.or_eq_true, Bool.or_eq_false_iff, Bool.and_eq_true, Bool.and_eq_false_imp, decide_eq_true_eq, decide_eq_false_iff_not] at p1
    refine A.skip (A.tn (A.seq (A.region (A.goA [.p, .p, .cq (.tuple #[u_ ((tkP ((timeP l).pv) h).pv), i_ ((tkP ((timeP l).pv) h).pe)]), .p, .p, .p, .p] [(0, s_ (bs l)), (1, u_ h), (4, u_ ((tkP ((timeP l).pv) h).pv)), (5, i_ ((tkP ((timeP l).pv) h).pe)), (6, u_ ((timeP l).pv)), (7, i_ ((timeP l).pe)), (14, b_ (((timeP l).pe) != 0))] [] (fun κ => κ.call 19 [u_ ((timeP l).pv), u_ h] (.tuple #[u_ ((tkP ((timeP l).pv) h).pv), i_ ((tkP ((timeP l).pv) h).pe)]) ∧ True) (by kernel_rfl) ⟨(fun ww ss => rtik_spec ((timeP l).pv) h (by first | assumption | omega | (simp; omega)) (by first | assumption | omega | (simp; omega)) ww), trivial⟩ ?_))))
    refine A.tn (A.ret (A.postQ [u_ ((tkP ((timeP l).pv) h).pv), i_ ((tkP ((timeP l).pv) h).pe)] (fun aa ww rr ss => ⟨rv_tmp rr rfl, rv_tmp rr rfl, trivial⟩) ?_))
    show ((.tuple #[u_ ((tkP ((timeP l).pv) h).pv), i_ ((tkP ((timeP l).pv) h).pe)]) : Value) = (.tuple #[u_ ((tkS l h).pv), i_ ((tkS l h).pe)])
    unfold tkS; first | (rw [if_pos (by simp_all)]; done) | (rw [if_neg (by simp_all)]; done)

set_option maxHeartbeats 4000000 in
set_option maxRecDepth 100000 in
theorem r43sl_spec (l : List UInt8) (h : Int) (hl : l.length ≤ 1000) (hh : 0 ≤ h ∧ h < 18446744073709551616) (w : World) :
    Calls Tryd.prog 50 #[s_ (bs l), u_ h] w fun e w' => e = .returned (.agg #[u_ ((slS l h).pv), i_ ((slS l h).pe)]) ∧ Fr [] w w' := by
  have hr := rateP_rng l; have ht := timeP_rng l
  have he := rateP_err l
  refine calls_of (args := [s_ (bs l), u_ h]) (penv [s_ (bs l), u_ h]) [] [] Tryd.func50 rfl rfl (look_penv _) (HS.nil w) ?_
  refine A.norm [(0, s_ (bs l)), (1, u_ h)] [] (by exact ⟨rfl, rfl, trivial⟩) rfl ?_
  refine A.seq (A.region (A.goA1 [.al] [0, 1, 4] (fun b1 => [(0, s_ (bs l)), (1, u_ h), (4, p_ b1)]) (fun b1 => [blk b1 [u_ 0, i_ 0] 28]) (fun b1 => []) (fun _ => T0) (fun _ => by kernel_rfl) (fun b1 => trivial) ?_))
  intro b1
  refine A.tn (A.seq (A.region (A.goA1 [.p, .cq (.agg #[u_ ((rateP l).pv), i_ ((rateP l).pe)]), .al, .st 1] [0, 1, 4, 5] (fun b2 => [(0, s_ (bs l)), (1, u_ h), (4, p_ b1), (5, p_ b2)]) (fun b2 => [blk b1 [u_ 0, i_ 0] 28, blk b2 [u_ ((rateP l).pv), i_ ((rateP l).pe)] 28]) (fun b2 => [b2]) (fun _ => (fun κ => κ.call 12 [s_ (bs l)] (.agg #[u_ ((rateP l).pv), i_ ((rateP l).pe)]) ∧ True)) (fun _ => by kernel_rfl) (fun b2 => ⟨(fun ww ss => r43rate_spec l (by first | assumption | omega | (simp; omega)) ww), trivial⟩) ?_)))
  intro b2
  refine A.tn (A.seq (A.seq (A.region (A.goA [.p, .ld 1, .p] [(0, s_ (bs l)), (1, u_ h), (4, p_ b1), (5, p_ b2), (10, b_ (((rateP l).pe) != 0))] [b2] T0 (by kernel_rfl) trivial ?_))))
  refine A.tn (A.cond (E := ((rateP l).pe) != 0) rfl (fun e1 => ?_) (fun e1 => ?_))
  · skip
    have p1 := e1; try simp only [nrm, bs_inj, Bool.or_eq_true, Bool.or_eq_false_iff, Bool.and_eq_true, Bool.and_eq_false_imp, decide_eq_true_eq, decide_eq_false_iff_not] at p1
    refine A.seq (A.region (A.goAS [.ld 1, .st 0] [(0, s_ (bs l)), (1, u_ h), (4, p_ b1), (5, p_ b2), (10, b_ (((rateP l).pe) != 0))] [blk b1 [u_ ((rateP l).pv), i_ ((rateP l).pe)] 28, blk b2 [u_ ((rateP l).pv), i_ ((rateP l).pe)] 28] [b2, b1] T0 (by kernel_rfl) trivial ?_))
    refine A.tn (A.ret (A.tr (A.postQ [(.agg #[u_ ((rateP l).pv), i_ ((rateP l).pe)])] (fun aa ww rr ss => ⟨rv_cellN (vs := [u_ ((rateP l).pv), i_ ((rateP l).pe)]) rr ss rfl (by kernel_rfl) (reads_blk (i := 0) rfl rfl), trivial⟩) ?_)))
    show ((.agg #[u_ ((rateP l).pv), i_ ((rateP l).pe)]) : Value) = (.agg #[u_ ((slS l h).pv), i_ ((slS l h).pe)])
    unfold slS; first | (rw [if_neg (by simp_all)]; done) | (rw [if_pos (by simp_all), he (by simp_all)]; done)
  · skip
    have p1 := e1; try simp only [nrm, bs_inj, Bool.or_eq_true, Bool.or_eq_false_iff, Bool.and_eq_true, Bool.and_eq_false_imp, decide_eq_true_eq, decide_eq_false_iff_not] at p1
    refine A.skip (A.tn (A.seq (A.region (A.goAS [.p, .ld 1, .p, .cq (.agg #[u_ ((slP ((rateP l).pv) h).pv), i_ ((slP ((rateP l).pv) h).pe)]), .st 0] [(0, s_ (bs l)), (1, u_ h), (4, p_ b1), (5, p_ b2), (10, b_ (((rateP l).pe) != 0))] [blk b1 [u_ ((slP ((rateP l).pv) h).pv), i_ ((slP ((rateP l).pv) h).pe)] 28, blk b2 [u_ ((rateP l).pv), i_ ((rateP l).pe)] 28] [b2, b1] (fun κ => κ.call 21 [u_ ((rateP l).pv), u_ h] (.agg #[u_ ((slP ((rateP l).pv) h).pv), i_ ((slP ((rateP l).pv) h).pe)]) ∧ True) (by kernel_rfl) ⟨(fun ww ss => r43slo_spec ((rateP l).pv) h (by first | assumption | omega | (simp; omega)) (by first | assumption | omega | (simp; omega)) ww), trivial⟩ ?_))))
    refine A.tn (A.ret (A.postQ [(.agg #[u_ ((slP ((rateP l).pv) h).pv), i_ ((slP ((rateP l).pv) h).pe)])] (fun aa ww rr ss => ⟨rv_cellN (vs := [u_ ((slP ((rateP l).pv) h).pv), i_ ((slP ((rateP l).pv) h).pe)]) rr ss rfl (by kernel_rfl) (reads_blk (i := 0) rfl rfl), trivial⟩) ?_))
    show ((.agg #[u_ ((slP ((rateP l).pv) h).pv), i_ ((slP ((rateP l).pv) h).pe)]) : Value) = (.agg #[u_ ((slS l h).pv), i_ ((slS l h).pe)])
    unfold slS; first | (rw [if_neg (by simp_all)]; done) | (rw [if_pos (by simp_all), he (by simp_all)]; done)
end Go.Proofs.YtbmllohfpgngeaaDoor
