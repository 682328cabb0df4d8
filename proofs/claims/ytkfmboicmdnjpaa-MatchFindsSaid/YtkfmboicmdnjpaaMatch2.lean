/- What the functions of this layer do, proved operation by operation, for all arguments, under the conditions that each theorem states. -/
import Derived.Test.YtkfmboicmdnjpaaProg
import Derived.Test.YtkfmboicmdnjpaaMatch1
namespace Go.Proofs.Ytkfmboicmdnjpaa
open Go V
set_option linter.unusedVariables false
set_option linter.unusedSimpArgs false
def HdOk (x : Hd) : Prop := (0 ≤ x.ha ∧ x.ha ≤ 65535) ∧ (0 ≤ x.hb ∧ x.hb ≤ 65535) ∧ (0 ≤ x.hc ∧ x.hc ≤ 65535) ∧ (0 ≤ x.hd ∧ x.hd ≤ 65535)
def ksHd : List FK := [.int .u16, .int .u16, .int .u16, .int .u16]
theorem openHd (cs : List Value) (h : FitsL ksHd cs) : ∃ x, cs = encHd x ∧ HdOk x := by
  unfold ksHd at h
  obtain ⟨v0, cs0, rfl, h0, g0⟩ := fitsL_cons h
  obtain ⟨a0, rfl, r0⟩ := fit_u16 h0
  obtain ⟨v1, cs1, rfl, h1, g1⟩ := fitsL_cons g0
  obtain ⟨a1, rfl, r1⟩ := fit_u16 h1
  obtain ⟨v2, cs2, rfl, h2, g2⟩ := fitsL_cons g1
  obtain ⟨a2, rfl, r2⟩ := fit_u16 h2
  obtain ⟨v3, cs3, rfl, h3, g3⟩ := fitsL_cons g2
  obtain ⟨a3, rfl, r3⟩ := fit_u16 h3
  obtain rfl := fitsL_nil g3
  exact ⟨⟨a0, a1, a2, a3⟩, rfl, r0, r1, r2, r3⟩
def RlOk (x : Rl) : Prop := (0 ≤ x.ma ∧ x.ma ≤ 65535) ∧ (0 ≤ x.mb ∧ x.mb ≤ 65535) ∧ (0 ≤ x.mc ∧ x.mc ≤ 65535) ∧ (0 ≤ x.md ∧ x.md ≤ 65535) ∧ (0 ≤ x.wa ∧ x.wa ≤ 65535) ∧ (0 ≤ x.wb ∧ x.wb ≤ 65535) ∧ (0 ≤ x.wc ∧ x.wc ≤ 65535) ∧ (0 ≤ x.wd ∧ x.wd ≤ 65535) ∧ ((-9223372036854775808) ≤ x.cl ∧ x.cl ≤ 9223372036854775807)
def ksRl : List FK := [.int .u16, .int .u16, .int .u16, .int .u16, .int .u16, .int .u16, .int .u16, .int .u16, .int .i64]
theorem openRl (cs : List Value) (h : FitsL ksRl cs) : ∃ x, cs = encRl x ∧ RlOk x := by
  unfold ksRl at h
  obtain ⟨v0, cs0, rfl, h0, g0⟩ := fitsL_cons h
  obtain ⟨a0, rfl, r0⟩ := fit_u16 h0
  obtain ⟨v1, cs1, rfl, h1, g1⟩ := fitsL_cons g0
  obtain ⟨a1, rfl, r1⟩ := fit_u16 h1
  obtain ⟨v2, cs2, rfl, h2, g2⟩ := fitsL_cons g1
  obtain ⟨a2, rfl, r2⟩ := fit_u16 h2
  obtain ⟨v3, cs3, rfl, h3, g3⟩ := fitsL_cons g2
  obtain ⟨a3, rfl, r3⟩ := fit_u16 h3
  obtain ⟨v4, cs4, rfl, h4, g4⟩ := fitsL_cons g3
  obtain ⟨a4, rfl, r4⟩ := fit_u16 h4
  obtain ⟨v5, cs5, rfl, h5, g5⟩ := fitsL_cons g4
  obtain ⟨a5, rfl, r5⟩ := fit_u16 h5
  obtain ⟨v6, cs6, rfl, h6, g6⟩ := fitsL_cons g5
  obtain ⟨a6, rfl, r6⟩ := fit_u16 h6
  obtain ⟨v7, cs7, rfl, h7, g7⟩ := fitsL_cons g6
  obtain ⟨a7, rfl, r7⟩ := fit_u16 h7
  obtain ⟨v8, cs8, rfl, h8, g8⟩ := fitsL_cons g7
  obtain ⟨a8, rfl, r8⟩ := fit_i64 h8
  obtain rfl := fitsL_nil g8
  exact ⟨⟨a0, a1, a2, a3, a4, a5, a6, a7, a8⟩, rfl, r0, r1, r2, r3, r4, r5, r6, r7, r8⟩
def mt (r : Rl) (h : Hd) : Bool := land h.ha r.ma == r.wa && land h.hb r.mb == r.wb && land h.hc r.mc == r.wc && land h.hd r.md == r.wd

set_option maxHeartbeats 4000000 in
set_option maxRecDepth 100000 in
theorem matches_spec (r : Rl) (h : Hd) (hr : RlOk r) (hh : HdOk h) (w : World) :
    Calls Try.prog 38 #[(.agg #[(w_ r.ma), (w_ r.mb), (w_ r.mc), (w_ r.md), (w_ r.wa), (w_ r.wb), (w_ r.wc), (w_ r.wd), (i_ r.cl)]), (.agg #[(w_ h.ha), (w_ h.hb), (w_ h.hc), (w_ h.hd)])] w fun e w' => e = .returned (b_ (mt r h)) ∧ Fr [] w w' := by
  obtain ⟨hr1, hr2, hr3, hr4, hr5, hr6, hr7, hr8, hr9⟩ := hr; obtain ⟨hh1, hh2, hh3, hh4⟩ := hh
  refine calls_of (args := [(.agg #[(w_ r.ma), (w_ r.mb), (w_ r.mc), (w_ r.md), (w_ r.wa), (w_ r.wb), (w_ r.wc), (w_ r.wd), (i_ r.cl)]), (.agg #[(w_ h.ha), (w_ h.hb), (w_ h.hc), (w_ h.hd)])]) (penv [(.agg #[(w_ r.ma), (w_ r.mb), (w_ r.mc), (w_ r.md), (w_ r.wa), (w_ r.wb), (w_ r.wc), (w_ r.wd), (i_ r.cl)]), (.agg #[(w_ h.ha), (w_ h.hb), (w_ h.hc), (w_ h.hd)])]) [] [] Try.func38 rfl rfl (look_penv _) (HS.nil w) ?_
  refine A.norm [(0, (.agg #[(w_ r.ma), (w_ r.mb), (w_ r.mc), (w_ r.md), (w_ r.wa), (w_ r.wb), (w_ r.wc), (w_ r.wd), (i_ r.cl)])), (1, (.agg #[(w_ h.ha), (w_ h.hb), (w_ h.hc), (w_ h.hd)]))] [] (by exact ⟨rfl, rfl, trivial⟩) rfl ?_
  refine A.seq ?_
  refine A.region (A.goA2 [.al, .al, .p] [0, 1, 2, 3, 4] (fun b1 b2 => [(0, (.agg #[(w_ r.ma), (w_ r.mb), (w_ r.mc), (w_ r.md), (w_ r.wa), (w_ r.wb), (w_ r.wc), (w_ r.wd), (i_ r.cl)])), (1, (.agg #[(w_ h.ha), (w_ h.hb), (w_ h.hc), (w_ h.hd)])), (2, (p_ b1)), (3, (p_ b2)), (4, (b_ false))]) (fun b1 b2 => [blk b1 [(w_ r.ma), (w_ r.mb), (w_ r.mc), (w_ r.md), (w_ r.wa), (w_ r.wb), (w_ r.wc), (w_ r.wd), (i_ r.cl)] 65, blk b2 [(w_ h.ha), (w_ h.hb), (w_ h.hc), (w_ h.hd)] 56]) (fun b1 b2 => []) (fun _ _ => T0) (fun _ _ => by kernel_rfl) (fun b1 b2 => trivial) ?_)
  intro b1 b2
  refine A.tn ?_
  refine A.seq ?_
  refine A.drawA [.ld 1, .p, .ld 0, .cq (.agg #[(w_ (bitsV .and .u16 h.ha r.ma)), (w_ (bitsV .and .u16 h.hb r.mb)), (w_ (bitsV .and .u16 h.hc r.mc)), (w_ (bitsV .and .u16 h.hd r.md))]), .p, .ld 0, .eq, .p] [0, 1, 2, 3, 4, 5, 6, 7] [(0, (.agg #[(w_ r.ma), (w_ r.mb), (w_ r.mc), (w_ r.md), (w_ r.wa), (w_ r.wb), (w_ r.wc), (w_ r.wd), (i_ r.cl)])), (1, (.agg #[(w_ h.ha), (w_ h.hb), (w_ h.hc), (w_ h.hd)])), (2, (p_ b1)), (3, (p_ b2)), (4, (b_ (((bitsV .and .u16 h.ha r.ma) == r.wa) && (((bitsV .and .u16 h.hb r.mb) == r.wb) && (((bitsV .and .u16 h.hc r.mc) == r.wc) && ((bitsV .and .u16 h.hd r.md) == r.wd))))))] [b2, b1, b1] (fun κ => κ.call 58 [(.agg #[(w_ h.ha), (w_ h.hb), (w_ h.hc), (w_ h.hd)]), (.agg #[(w_ r.ma), (w_ r.mb), (w_ r.mc), (w_ r.md)])] (.agg #[(w_ (bitsV .and .u16 h.ha r.ma)), (w_ (bitsV .and .u16 h.hb r.mb)), (w_ (bitsV .and .u16 h.hc r.mc)), (w_ (bitsV .and .u16 h.hd r.md))]) ∧ True) (by kernel_rfl) (by kernel_rfl) ⟨(fun ww ss => under_spec h.ha h.hb h.hc h.hd r.ma r.mb r.mc r.md ww), trivial⟩ ?_
  refine A.tn ?_
  refine A.ret ?_
  refine A.postQ [(b_ (((bitsV .and .u16 h.ha r.ma) == r.wa) && (((bitsV .and .u16 h.hb r.mb) == r.wb) && (((bitsV .and .u16 h.hc r.mc) == r.wc) && ((bitsV .and .u16 h.hd r.md) == r.wd)))))] (fun aa ww rr ss => ⟨rv_tmp rr rfl, trivial⟩) ?_
  show ((b_ (((bitsV .and .u16 h.ha r.ma) == r.wa) && (((bitsV .and .u16 h.hb r.mb) == r.wb) && (((bitsV .and .u16 h.hc r.mc) == r.wc) && ((bitsV .and .u16 h.hd r.md) == r.wd))))) : Value) = (b_ (mt r h))
  refine congrArg Value.bool ?_; rw [bits_land (by omega) (by omega), bits_land (by omega) (by omega), bits_land (by omega) (by omega), bits_land (by omega) (by omega)]; first | rfl | (unfold mt; simp [Bool.and_assoc])

set_option maxHeartbeats 4000000 in
set_option maxRecDepth 100000 in
theorem rmatches_spec (r : Rl) (h : Hd) (hr : RlOk r) (hh : HdOk h) (w : World) :
    Calls Try.prog 39 #[(.agg #[(w_ r.ma), (w_ r.mb), (w_ r.mc), (w_ r.md), (w_ r.wa), (w_ r.wb), (w_ r.wc), (w_ r.wd), (i_ r.cl)]), (.agg #[(w_ h.ha), (w_ h.hb), (w_ h.hc), (w_ h.hd)])] w fun e w' => e = .returned (b_ (mt r h)) ∧ Fr [] w w' := by
  obtain ⟨hr1, hr2, hr3, hr4, hr5, hr6, hr7, hr8, hr9⟩ := hr; obtain ⟨hh1, hh2, hh3, hh4⟩ := hh
  refine calls_of (args := [(.agg #[(w_ r.ma), (w_ r.mb), (w_ r.mc), (w_ r.md), (w_ r.wa), (w_ r.wb), (w_ r.wc), (w_ r.wd), (i_ r.cl)]), (.agg #[(w_ h.ha), (w_ h.hb), (w_ h.hc), (w_ h.hd)])]) (penv [(.agg #[(w_ r.ma), (w_ r.mb), (w_ r.mc), (w_ r.md), (w_ r.wa), (w_ r.wb), (w_ r.wc), (w_ r.wd), (i_ r.cl)]), (.agg #[(w_ h.ha), (w_ h.hb), (w_ h.hc), (w_ h.hd)])]) [] [] Try.func39 rfl rfl (look_penv _) (HS.nil w) ?_
  refine A.norm [(0, (.agg #[(w_ r.ma), (w_ r.mb), (w_ r.mc), (w_ r.md), (w_ r.wa), (w_ r.wb), (w_ r.wc), (w_ r.wd), (i_ r.cl)])), (1, (.agg #[(w_ h.ha), (w_ h.hb), (w_ h.hc), (w_ h.hd)]))] [] (by exact ⟨rfl, rfl, trivial⟩) rfl ?_
  refine A.seq ?_
  refine A.region (A.goA2 [.al, .al, .p] [0, 1, 2, 3, 4] (fun b1 b2 => [(0, (.agg #[(w_ r.ma), (w_ r.mb), (w_ r.mc), (w_ r.md), (w_ r.wa), (w_ r.wb), (w_ r.wc), (w_ r.wd), (i_ r.cl)])), (1, (.agg #[(w_ h.ha), (w_ h.hb), (w_ h.hc), (w_ h.hd)])), (2, (p_ b1)), (3, (p_ b2)), (4, (b_ false))]) (fun b1 b2 => [blk b1 [(w_ r.ma), (w_ r.mb), (w_ r.mc), (w_ r.md), (w_ r.wa), (w_ r.wb), (w_ r.wc), (w_ r.wd), (i_ r.cl)] 65, blk b2 [(w_ h.ha), (w_ h.hb), (w_ h.hc), (w_ h.hd)] 56]) (fun b1 b2 => []) (fun _ _ => T0) (fun _ _ => by kernel_rfl) (fun b1 b2 => trivial) ?_)
  intro b1 b2
  refine A.tn ?_
  refine A.seq ?_
  refine A.seq ?_
  refine A.region (A.goA [.p] [(0, (.agg #[(w_ r.ma), (w_ r.mb), (w_ r.mc), (w_ r.md), (w_ r.wa), (w_ r.wb), (w_ r.wc), (w_ r.wd), (i_ r.cl)])), (1, (.agg #[(w_ h.ha), (w_ h.hb), (w_ h.hc), (w_ h.hd)])), (2, (p_ b1)), (3, (p_ b2)), (4, (b_ false)), (6, (i_ 0))] [] T0 (by kernel_rfl) trivial ?_)
  refine A.tn ?_
  refine A.block ?_
  refine A.unroll 400 ?_
  refine A.sub [(2, (p_ b1)), (3, (p_ b2)), (4, (b_ false)), (6, (i_ 0))] (by exact ⟨rfl, rfl, rfl, rfl, trivial⟩) (A.turnk (m := 399) ?_)
  refine A.seq ?_
  refine A.region (A.goA [.p] [(2, (p_ b1)), (3, (p_ b2)), (4, (b_ false)), (6, (i_ 0)), (7, (b_ true))] [] T0 (by kernel_rfl) trivial ?_)
  refine A.tn ?_
  refine A.seq ?_
  refine A.cond_t rfl ?_
  refine A.skip ?_
  refine A.tn ?_
  refine A.seq ?_
  refine A.block ?_
  refine A.seq ?_
  refine A.region (A.goA [.p, .p] [(2, (p_ b1)), (3, (p_ b2)), (4, (b_ false)), (6, (i_ 0)), (7, (b_ true)), (5, (i_ 0))] [] T0 (by kernel_rfl) trivial ?_)
  refine A.tn ?_
  refine A.seq ?_
  refine A.drawA [.p, .p, .ld 1, .p, .p, .p, .ld 0, .cq (w_ (land h.ha r.ma)), .p, .p, .p, .ld 0, .p] [0, 1, 2, 3, 4, 5, 6, 7, 8, 9, 10, 11, 12] [(2, (p_ b1)), (3, (p_ b2)), (4, (b_ false)), (6, (i_ 0)), (7, (b_ true)), (5, (i_ 0)), (21, (b_ ((land h.ha r.ma) != r.wa)))] [b2, b1, b1] (fun κ => κ.call 60 [(w_ h.ha), (w_ r.ma)] (w_ (land h.ha r.ma)) ∧ True) (by kernel_rfl) (by kernel_rfl) ⟨(fun ww ss => runder_spec h.ha r.ma (by constructor <;> omega) (by constructor <;> omega) ww), trivial⟩ ?_
  refine A.tn ?_
  refine A.cond (E := (land h.ha r.ma) != r.wa) rfl (fun e1 => ?_) (fun e1 => ?_)
  · skip
    have p1 := e1; try simp only [decide_eq_true_eq, decide_eq_false_iff_not, beq_iff_eq, beq_eq_false_iff_ne, bne_iff_ne, bne_eq_false_iff_eq, ne_eq, Bool.and_eq_true, Bool.or_eq_true, Bool.or_eq_false_iff, Bool.not_eq_true', Bool.not_eq_false', Int.not_lt, Int.not_le, gt_iff_lt, ge_iff_le, Classical.not_not] at p1
    refine A.seq ?_
    refine A.region (A.goA [.p] [(2, (p_ b1)), (3, (p_ b2)), (4, (b_ false)), (6, (i_ 0)), (7, (b_ true)), (5, (i_ 0)), (21, (b_ ((land h.ha r.ma) != r.wa)))] [] T0 (by kernel_rfl) trivial ?_)
    refine A.tn ?_
    refine A.ret ?_
    refine A.br ?_
    refine A.tr ?_
    refine A.tr ?_
    refine A.br ?_
    refine A.tr ?_
    refine A.postQ [(b_ false)] (fun aa ww rr ss => ⟨rv_tmp rr rfl, trivial⟩) ?_
    show ((b_ false) : Value) = (b_ (mt r h))
    refine congrArg Value.bool ?_; unfold mt; simp_all
  · skip
    have p1 := e1; try simp only [decide_eq_true_eq, decide_eq_false_iff_not, beq_iff_eq, beq_eq_false_iff_ne, bne_iff_ne, bne_eq_false_iff_eq, ne_eq, Bool.and_eq_true, Bool.or_eq_true, Bool.or_eq_false_iff, Bool.not_eq_true', Bool.not_eq_false', Int.not_lt, Int.not_le, gt_iff_lt, ge_iff_le, Classical.not_not] at p1
    refine A.skip ?_
    refine A.bn ?_
    refine A.tn ?_
    refine A.region (A.goA [.p, .p] [(2, (p_ b1)), (3, (p_ b2)), (4, (b_ false)), (6, (i_ 1)), (7, (b_ true)), (5, (i_ 0)), (21, (b_ ((land h.ha r.ma) != r.wa)))] [] T0 (by kernel_rfl) trivial ?_)
    refine A.tn ?_
    refine A.turnk (m := 398) ?_
    refine A.seq ?_
    refine A.region (A.goA [.p] [(2, (p_ b1)), (3, (p_ b2)), (4, (b_ false)), (6, (i_ 1)), (7, (b_ true)), (5, (i_ 0)), (21, (b_ ((land h.ha r.ma) != r.wa)))] [] T0 (by kernel_rfl) trivial ?_)
    refine A.tn ?_
    refine A.seq ?_
    refine A.cond_t rfl ?_
    refine A.skip ?_
    refine A.tn ?_
    refine A.seq ?_
    refine A.block ?_
    refine A.seq ?_
    refine A.region (A.goA [.p, .p] [(2, (p_ b1)), (3, (p_ b2)), (4, (b_ false)), (6, (i_ 1)), (7, (b_ true)), (5, (i_ 1)), (21, (b_ ((land h.ha r.ma) != r.wa)))] [] T0 (by kernel_rfl) trivial ?_)
    refine A.tn ?_
    refine A.seq ?_
    refine A.drawA [.p, .p, .ld 1, .p, .p, .p, .ld 0, .cq (w_ (land h.hb r.mb)), .p, .p, .p, .ld 0, .p] [0, 1, 2, 3, 4, 5, 6, 7, 8, 9, 10, 11, 12] [(2, (p_ b1)), (3, (p_ b2)), (4, (b_ false)), (6, (i_ 1)), (7, (b_ true)), (5, (i_ 1)), (21, (b_ ((land h.hb r.mb) != r.wb)))] [b2, b1, b1] (fun κ => κ.call 60 [(w_ h.hb), (w_ r.mb)] (w_ (land h.hb r.mb)) ∧ True) (by kernel_rfl) (by kernel_rfl) ⟨(fun ww ss => runder_spec h.hb r.mb (by constructor <;> omega) (by constructor <;> omega) ww), trivial⟩ ?_
    refine A.tn ?_
    refine A.cond (E := (land h.hb r.mb) != r.wb) rfl (fun e2 => ?_) (fun e2 => ?_)
    · skip
      have p2 := e2; try simp only [decide_eq_true_eq, decide_eq_false_iff_not, beq_iff_eq, beq_eq_false_iff_ne, bne_iff_ne, bne_eq_false_iff_eq, ne_eq, Bool.and_eq_true, Bool.or_eq_true, Bool.or_eq_false_iff, Bool.not_eq_true', Bool.not_eq_false', Int.not_lt, Int.not_le, gt_iff_lt, ge_iff_le, Classical.not_not] at p2
      refine A.seq ?_
      refine A.region (A.goA [.p] [(2, (p_ b1)), (3, (p_ b2)), (4, (b_ false)), (6, (i_ 1)), (7, (b_ true)), (5, (i_ 1)), (21, (b_ ((land h.hb r.mb) != r.wb)))] [] T0 (by kernel_rfl) trivial ?_)
      refine A.tn ?_
      refine A.ret ?_
      refine A.br ?_
      refine A.tr ?_
      refine A.tr ?_
      refine A.br ?_
      refine A.tr ?_
      refine A.postQ [(b_ false)] (fun aa ww rr ss => ⟨rv_tmp rr rfl, trivial⟩) ?_
      show ((b_ false) : Value) = (b_ (mt r h))
      refine congrArg Value.bool ?_; unfold mt; simp_all
    · skip
      have p2 := e2; try simp only [decide_eq_true_eq, decide_eq_false_iff_not, beq_iff_eq, beq_eq_false_iff_ne, bne_iff_ne, bne_eq_false_iff_eq, ne_eq, Bool.and_eq_true, Bool.or_eq_true, Bool.or_eq_false_iff, Bool.not_eq_true', Bool.not_eq_false', Int.not_lt, Int.not_le, gt_iff_lt, ge_iff_le, Classical.not_not] at p2
      refine A.skip ?_
      refine A.bn ?_
      refine A.tn ?_
      refine A.region (A.goA [.p, .p] [(2, (p_ b1)), (3, (p_ b2)), (4, (b_ false)), (6, (i_ 2)), (7, (b_ true)), (5, (i_ 1)), (21, (b_ ((land h.hb r.mb) != r.wb)))] [] T0 (by kernel_rfl) trivial ?_)
      refine A.tn ?_
      refine A.turnk (m := 397) ?_
      refine A.seq ?_
      refine A.region (A.goA [.p] [(2, (p_ b1)), (3, (p_ b2)), (4, (b_ false)), (6, (i_ 2)), (7, (b_ true)), (5, (i_ 1)), (21, (b_ ((land h.hb r.mb) != r.wb)))] [] T0 (by kernel_rfl) trivial ?_)
      refine A.tn ?_
      refine A.seq ?_
      refine A.cond_t rfl ?_
      refine A.skip ?_
      refine A.tn ?_
      refine A.seq ?_
      refine A.block ?_
      refine A.seq ?_
      refine A.region (A.goA [.p, .p] [(2, (p_ b1)), (3, (p_ b2)), (4, (b_ false)), (6, (i_ 2)), (7, (b_ true)), (5, (i_ 2)), (21, (b_ ((land h.hb r.mb) != r.wb)))] [] T0 (by kernel_rfl) trivial ?_)
      refine A.tn ?_
      refine A.seq ?_
      refine A.drawA [.p, .p, .ld 1, .p, .p, .p, .ld 0, .cq (w_ (land h.hc r.mc)), .p, .p, .p, .ld 0, .p] [0, 1, 2, 3, 4, 5, 6, 7, 8, 9, 10, 11, 12] [(2, (p_ b1)), (3, (p_ b2)), (4, (b_ false)), (6, (i_ 2)), (7, (b_ true)), (5, (i_ 2)), (21, (b_ ((land h.hc r.mc) != r.wc)))] [b2, b1, b1] (fun κ => κ.call 60 [(w_ h.hc), (w_ r.mc)] (w_ (land h.hc r.mc)) ∧ True) (by kernel_rfl) (by kernel_rfl) ⟨(fun ww ss => runder_spec h.hc r.mc (by constructor <;> omega) (by constructor <;> omega) ww), trivial⟩ ?_
      refine A.tn ?_
      refine A.cond (E := (land h.hc r.mc) != r.wc) rfl (fun e3 => ?_) (fun e3 => ?_)
      · skip
        have p3 := e3; try simp only [decide_eq_true_eq, decide_eq_false_iff_not, beq_iff_eq, beq_eq_false_iff_ne, bne_iff_ne, bne_eq_false_iff_eq, ne_eq, Bool.and_eq_true, Bool.or_eq_true, Bool.or_eq_false_iff, Bool.not_eq_true', Bool.not_eq_false', Int.not_lt, Int.not_le, gt_iff_lt, ge_iff_le, Classical.not_not] at p3
        refine A.seq ?_
        refine A.region (A.goA [.p] [(2, (p_ b1)), (3, (p_ b2)), (4, (b_ false)), (6, (i_ 2)), (7, (b_ true)), (5, (i_ 2)), (21, (b_ ((land h.hc r.mc) != r.wc)))] [] T0 (by kernel_rfl) trivial ?_)
        refine A.tn ?_
        refine A.ret ?_
        refine A.br ?_
        refine A.tr ?_
        refine A.tr ?_
        refine A.br ?_
        refine A.tr ?_
        refine A.postQ [(b_ false)] (fun aa ww rr ss => ⟨rv_tmp rr rfl, trivial⟩) ?_
        show ((b_ false) : Value) = (b_ (mt r h))
        refine congrArg Value.bool ?_; unfold mt; simp_all
      · skip
        have p3 := e3; try simp only [decide_eq_true_eq, decide_eq_false_iff_not, beq_iff_eq, beq_eq_false_iff_ne, bne_iff_ne, bne_eq_false_iff_eq, ne_eq, Bool.and_eq_true, Bool.or_eq_true, Bool.or_eq_false_iff, Bool.not_eq_true', Bool.not_eq_false', Int.not_lt, Int.not_le, gt_iff_lt, ge_iff_le, Classical.not_not] at p3
        refine A.skip ?_
        refine A.bn ?_
        refine A.tn ?_
        refine A.region (A.goA [.p, .p] [(2, (p_ b1)), (3, (p_ b2)), (4, (b_ false)), (6, (i_ 3)), (7, (b_ true)), (5, (i_ 2)), (21, (b_ ((land h.hc r.mc) != r.wc)))] [] T0 (by kernel_rfl) trivial ?_)
        refine A.tn ?_
        refine A.turnk (m := 396) ?_
        refine A.seq ?_
        refine A.region (A.goA [.p] [(2, (p_ b1)), (3, (p_ b2)), (4, (b_ false)), (6, (i_ 3)), (7, (b_ true)), (5, (i_ 2)), (21, (b_ ((land h.hc r.mc) != r.wc)))] [] T0 (by kernel_rfl) trivial ?_)
        refine A.tn ?_
        refine A.seq ?_
        refine A.cond_t rfl ?_
        refine A.skip ?_
        refine A.tn ?_
        refine A.seq ?_
        refine A.block ?_
        refine A.seq ?_
        refine A.region (A.goA [.p, .p] [(2, (p_ b1)), (3, (p_ b2)), (4, (b_ false)), (6, (i_ 3)), (7, (b_ true)), (5, (i_ 3)), (21, (b_ ((land h.hc r.mc) != r.wc)))] [] T0 (by kernel_rfl) trivial ?_)
        refine A.tn ?_
        refine A.seq ?_
        refine A.drawA [.p, .p, .ld 1, .p, .p, .p, .ld 0, .cq (w_ (land h.hd r.md)), .p, .p, .p, .ld 0, .p] [0, 1, 2, 3, 4, 5, 6, 7, 8, 9, 10, 11, 12] [(2, (p_ b1)), (3, (p_ b2)), (4, (b_ false)), (6, (i_ 3)), (7, (b_ true)), (5, (i_ 3)), (21, (b_ ((land h.hd r.md) != r.wd)))] [b2, b1, b1] (fun κ => κ.call 60 [(w_ h.hd), (w_ r.md)] (w_ (land h.hd r.md)) ∧ True) (by kernel_rfl) (by kernel_rfl) ⟨(fun ww ss => runder_spec h.hd r.md (by constructor <;> omega) (by constructor <;> omega) ww), trivial⟩ ?_
        refine A.tn ?_
        refine A.cond (E := (land h.hd r.md) != r.wd) rfl (fun e4 => ?_) (fun e4 => ?_)
        · skip
          have p4 := e4; try simp only [decide_eq_true_eq, decide_eq_false_iff_not, beq_iff_eq, beq_eq_false_iff_ne, bne_iff_ne, bne_eq_false_iff_eq, ne_eq, Bool.and_eq_true, Bool.or_eq_true, Bool.or_eq_false_iff, Bool.not_eq_true', Bool.not_eq_false', Int.not_lt, Int.not_le, gt_iff_lt, ge_iff_le, Classical.not_not] at p4
          refine A.seq ?_
          refine A.region (A.goA [.p] [(2, (p_ b1)), (3, (p_ b2)), (4, (b_ false)), (6, (i_ 3)), (7, (b_ true)), (5, (i_ 3)), (21, (b_ ((land h.hd r.md) != r.wd)))] [] T0 (by kernel_rfl) trivial ?_)
          refine A.tn ?_
          refine A.ret ?_
          refine A.br ?_
          refine A.tr ?_
          refine A.tr ?_
          refine A.br ?_
          refine A.tr ?_
          refine A.postQ [(b_ false)] (fun aa ww rr ss => ⟨rv_tmp rr rfl, trivial⟩) ?_
          show ((b_ false) : Value) = (b_ (mt r h))
          refine congrArg Value.bool ?_; unfold mt; simp_all
        · skip
          have p4 := e4; try simp only [decide_eq_true_eq, decide_eq_false_iff_not, beq_iff_eq, beq_eq_false_iff_ne, bne_iff_ne, bne_eq_false_iff_eq, ne_eq, Bool.and_eq_true, Bool.or_eq_true, Bool.or_eq_false_iff, Bool.not_eq_true', Bool.not_eq_false', Int.not_lt, Int.not_le, gt_iff_lt, ge_iff_le, Classical.not_not] at p4
          refine A.skip ?_
          refine A.bn ?_
          refine A.tn ?_
          refine A.region (A.goA [.p, .p] [(2, (p_ b1)), (3, (p_ b2)), (4, (b_ false)), (6, (i_ 4)), (7, (b_ true)), (5, (i_ 3)), (21, (b_ ((land h.hd r.md) != r.wd)))] [] T0 (by kernel_rfl) trivial ?_)
          refine A.tn ?_
          refine A.turnk (m := 395) ?_
          refine A.seq ?_
          refine A.region (A.goA [.p] [(2, (p_ b1)), (3, (p_ b2)), (4, (b_ false)), (6, (i_ 4)), (7, (b_ false)), (5, (i_ 3)), (21, (b_ ((land h.hd r.md) != r.wd)))] [] T0 (by kernel_rfl) trivial ?_)
          refine A.tn ?_
          refine A.seq ?_
          refine A.cond_f rfl ?_
          refine A.exit ?_
          refine A.te ?_
          refine A.te ?_
          refine A.bh ?_
          refine A.tn ?_
          refine A.seq ?_
          refine A.region (A.goA [.p] [(2, (p_ b1)), (3, (p_ b2)), (4, (b_ true)), (6, (i_ 4)), (7, (b_ false)), (5, (i_ 3)), (21, (b_ ((land h.hd r.md) != r.wd)))] [] T0 (by kernel_rfl) trivial ?_)
          refine A.tn ?_
          refine A.ret ?_
          refine A.postQ [(b_ true)] (fun aa ww rr ss => ⟨rv_tmp rr rfl, trivial⟩) ?_
          show ((b_ true) : Value) = (b_ (mt r h))
          refine congrArg Value.bool ?_; unfold mt; simp_all
end Go.Proofs.Ytkfmboicmdnjpaa
