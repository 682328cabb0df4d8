/- What the functions of this layer do, proved operation by operation, for all arguments, under the conditions that each theorem states. -/
import Derived.Test.YtpodcfadcdnllaaProg
import Derived.Test.YtpodcfadcdnllaaHierB
namespace Go.Proofs.Ytpodcfadcdnllaa
open Go V
set_option linter.unusedVariables false
set_option linter.unusedSimpArgs false

set_option maxHeartbeats 4000000 in
set_option maxRecDepth 100000 in
theorem radd_spec (al : Option Addr) (l : List Cl) (cl : Nat) (y : Cl) (hl : l.length ≤ 100000) (w : World) (hs : HS w (feet [sl al (l.length) cl 30 14 (V.flat encCl l)]) [sl al (l.length) cl 30 14 (V.flat encCl l)] w) :
    Calls Try.prog 25 #[(.slice al l.length cl), (.agg #[(i_ y.hi), (i_ y.hp), (b_ y.hl), (u_ y.ra), (u_ y.rb), (u_ y.rc), (u_ y.la), (u_ y.lb), (u_ y.lc), (u_ y.ua), (u_ y.ub), (u_ y.uc), (i_ y.hk), (i_ y.hq)])] w fun e w' => ∃ zz, e = .returned ((fun (zz : (Option Addr) × Nat) => match zz with | (al', cl') => (.agg #[(.slice al' ((addLR l y).length) cl'), (i_ (addER l y))])) zz) ∧ (fun (zz : (Option Addr) × Nat) => match zz with | (al', cl') => True) zz ∧ Turn [sl al (l.length) cl 30 14 (V.flat encCl l)] ((fun (zz : (Option Addr) × Nat) => match zz with | (al', cl') => [sl al' ((addLR l y).length) cl' 30 14 (V.flat encCl (addLR l y))]) zz) w w' := by
  have hul := fun k => upL_len (kvl l) y.hp k
  refine calls_of (args := [(.slice al l.length cl), (.agg #[(i_ y.hi), (i_ y.hp), (b_ y.hl), (u_ y.ra), (u_ y.rb), (u_ y.rc), (u_ y.la), (u_ y.lb), (u_ y.lc), (u_ y.ua), (u_ y.ub), (u_ y.uc), (i_ y.hk), (i_ y.hq)])]) (penv [(.slice al l.length cl), (.agg #[(i_ y.hi), (i_ y.hp), (b_ y.hl), (u_ y.ra), (u_ y.rb), (u_ y.rc), (u_ y.la), (u_ y.lb), (u_ y.lc), (u_ y.ua), (u_ y.ub), (u_ y.uc), (i_ y.hk), (i_ y.hq)])]) (feet [sl al (l.length) cl 30 14 (V.flat encCl l)]) [sl al (l.length) cl 30 14 (V.flat encCl l)] Try.func25 rfl rfl (look_penv _) hs ?_
  refine A.norm [(0, (.slice al l.length cl)), (1, (.agg #[(i_ y.hi), (i_ y.hp), (b_ y.hl), (u_ y.ra), (u_ y.rb), (u_ y.rc), (u_ y.la), (u_ y.lb), (u_ y.lc), (u_ y.ua), (u_ y.ub), (u_ y.uc), (i_ y.hk), (i_ y.hq)]))] [sl al (l.length) cl 30 14 (V.flat encCl l)] (by exact ⟨rfl, rfl, trivial⟩) rfl ?_
  refine A.seq ?_
  refine A.region (A.goA2 [.al, .al] [0, 1, 3, 4] (fun b1 b2 => [(0, (.slice al l.length cl)), (1, (.agg #[(i_ y.hi), (i_ y.hp), (b_ y.hl), (u_ y.ra), (u_ y.rb), (u_ y.rc), (u_ y.la), (u_ y.lb), (u_ y.lc), (u_ y.ua), (u_ y.ub), (u_ y.uc), (i_ y.hk), (i_ y.hq)])), (3, (p_ b1)), (4, (p_ b2))]) (fun b1 b2 => [sl al (l.length) cl 30 14 (V.flat encCl l), blk b1 [(i_ y.hi), (i_ y.hp), (b_ y.hl), (u_ y.ra), (u_ y.rb), (u_ y.rc), (u_ y.la), (u_ y.lb), (u_ y.lc), (u_ y.ua), (u_ y.ub), (u_ y.uc), (i_ y.hk), (i_ y.hq)] 30, blk b2 [e_, (i_ 0)] 43]) (fun b1 b2 => []) (fun _ _ => T0) (fun _ _ => by kernel_rfl) (fun b1 b2 => trivial) ?_)
  intro b1 b2
  refine A.tn ?_
  refine A.seq ?_
  refine A.seq ?_
  refine A.region (A.goA [.ld 1, .cq (i_ (wrongR y)), .p] [(0, (.slice al l.length cl)), (1, (.agg #[(i_ y.hi), (i_ y.hp), (b_ y.hl), (u_ y.ra), (u_ y.rb), (u_ y.rc), (u_ y.la), (u_ y.lb), (u_ y.lc), (u_ y.ua), (u_ y.ub), (u_ y.uc), (i_ y.hk), (i_ y.hq)])), (3, (p_ b1)), (4, (p_ b2)), (5, (i_ (wrongR y)))] [b1] (fun κ => κ.call 41 [(.agg #[(i_ y.hi), (i_ y.hp), (b_ y.hl), (u_ y.ra), (u_ y.rb), (u_ y.rc), (u_ y.la), (u_ y.lb), (u_ y.lc), (u_ y.ua), (u_ y.ub), (u_ y.uc), (i_ y.hk), (i_ y.hq)])] (i_ (wrongR y)) ∧ True) (by kernel_rfl) ⟨(fun ww ss => rwrong_spec y ww), trivial⟩ ?_)
  refine A.tn ?_
  refine A.seq ?_
  refine A.region (A.goA [.p, .p] [(0, (.slice al l.length cl)), (1, (.agg #[(i_ y.hi), (i_ y.hp), (b_ y.hl), (u_ y.ra), (u_ y.rb), (u_ y.rc), (u_ y.la), (u_ y.lb), (u_ y.lc), (u_ y.ua), (u_ y.ub), (u_ y.uc), (i_ y.hk), (i_ y.hq)])), (3, (p_ b1)), (4, (p_ b2)), (5, (i_ (wrongR y))), (10, (b_ ((wrongR y) != 0)))] [] T0 (by kernel_rfl) trivial ?_)
  refine A.tn ?_
  refine A.cond (E := (wrongR y) != 0) rfl (fun e1 => ?_) (fun e1 => ?_)
  · skip
    have p1 := e1; try simp only [decide_eq_true_eq, decide_eq_false_iff_not, beq_iff_eq, beq_eq_false_iff_ne, bne_iff_ne, bne_eq_false_iff_eq, ne_eq, Bool.and_eq_true, Bool.or_eq_true, Bool.or_eq_false_iff, Bool.not_eq_true', Bool.not_eq_false', Int.not_lt, Int.not_le, gt_iff_lt, ge_iff_le, Classical.not_not] at p1
    refine A.seq ?_
    refine A.region (A.goAS [.p, .p, .p, .st 2] [(0, (.slice al l.length cl)), (1, (.agg #[(i_ y.hi), (i_ y.hp), (b_ y.hl), (u_ y.ra), (u_ y.rb), (u_ y.rc), (u_ y.la), (u_ y.lb), (u_ y.lc), (u_ y.ua), (u_ y.ub), (u_ y.uc), (i_ y.hk), (i_ y.hq)])), (3, (p_ b1)), (4, (p_ b2)), (5, (i_ (wrongR y))), (10, (b_ ((wrongR y) != 0)))] [sl al (l.length) cl 30 14 (V.flat encCl l), blk b1 [(i_ y.hi), (i_ y.hp), (b_ y.hl), (u_ y.ra), (u_ y.rb), (u_ y.rc), (u_ y.la), (u_ y.lb), (u_ y.lc), (u_ y.ua), (u_ y.ub), (u_ y.uc), (i_ y.hk), (i_ y.hq)] 30, blk b2 [(.slice al l.length cl), (i_ (wrongR y))] 43] [b2] T0 (by kernel_rfl) trivial ?_)
    refine A.tn ?_
    refine A.ret ?_
    refine A.tr ?_
    have hE_ : addER l y = (wrongR y) := by unfold addER; first | (simp_all [fd_ge, fd_neg, gcl]; done) | ((have hi0 : ¬ (i : Int) < 0 := by omega); simp [hi0] at *; simp_all [fd_ge, fd_neg, gcl]; done) | (simp_all [fd_ge, fd_neg, gcl]; omega) | grind [fd_ge, fd_neg, gcl]
    refine A.setH [sl al ((addLR l y).length) cl 30 14 (V.flat encCl (addLR l y)), blk b1 [(i_ y.hi), (i_ y.hp), (b_ y.hl), (u_ y.ra), (u_ y.rb), (u_ y.rc), (u_ y.la), (u_ y.lb), (u_ y.lc), (u_ y.ua), (u_ y.ub), (u_ y.uc), (i_ y.hk), (i_ y.hq)] 30, blk b2 [(.slice al l.length cl), (i_ (wrongR y))] 43] (cc (slC (by first | rfl | exact (addLR_no (by rw [hE_]; first | decide | assumption)).symm | exact (addLR_ok hE_).symm : l = (addLR l y))) rfl) ?_
    refine A.postK [0] [(.agg #[(.slice al l.length cl), (i_ (wrongR y))])] (fun aa ww rr ss => ⟨rv_cellN (vs := [(.slice al l.length cl), (i_ (wrongR y))]) rr ss rfl (by kernel_rfl) (reads_blk (i := 2) rfl rfl), trivial⟩) (al, cl) ?_ ?_ (by kernel_rfl)
    · show ((.agg #[(.slice al l.length cl), (i_ (wrongR y))]) : Value) = (.agg #[(.slice al ((addLR l y).length) cl), (i_ (addER l y))])
      first | (rw [addLR_no (by rw [hE_]; first | decide | assumption), hE_]; done) | (rw [addLR_ok hE_, hE_]; done)
    · trivial
  · skip
    have p1 := e1; try simp only [decide_eq_true_eq, decide_eq_false_iff_not, beq_iff_eq, beq_eq_false_iff_ne, bne_iff_ne, bne_eq_false_iff_eq, ne_eq, Bool.and_eq_true, Bool.or_eq_true, Bool.or_eq_false_iff, Bool.not_eq_true', Bool.not_eq_false', Int.not_lt, Int.not_le, gt_iff_lt, ge_iff_le, Classical.not_not] at p1
    refine A.skip ?_
    refine A.tn ?_
    refine A.seq ?_
    refine A.seq ?_
    refine A.region (A.goA [.p, .p, .ld 1, .cq (i_ (oI (fd y.hi l))), .p] [(0, (.slice al l.length cl)), (1, (.agg #[(i_ y.hi), (i_ y.hp), (b_ y.hl), (u_ y.ra), (u_ y.rb), (u_ y.rc), (u_ y.la), (u_ y.lb), (u_ y.lc), (u_ y.ua), (u_ y.ub), (u_ y.uc), (i_ y.hk), (i_ y.hq)])), (3, (p_ b1)), (4, (p_ b2)), (5, (i_ (wrongR y))), (10, (b_ ((wrongR y) != 0))), (18, (b_ (decide ((oI (fd y.hi l)) ≥ 0))))] [b1] (fun κ => κ.call 42 [(.slice al l.length cl), (i_ y.hi)] (i_ (oI (fd y.hi l))) ∧ True) (by kernel_rfl) ⟨(fun ww ss => fd_spec al l cl y.hi (by first | assumption | omega) ww ((rd_sl (i := 0) rfl) ww ss)), trivial⟩ ?_)
    refine A.tn ?_
    refine A.cond (E := decide ((oI (fd y.hi l)) ≥ 0)) rfl (fun e2 => ?_) (fun e2 => ?_)
    · skip
      have p2 := of_decide_eq_true e2
      refine A.seq ?_
      refine A.region (A.goAS [.p, .p, .st 2] [(0, (.slice al l.length cl)), (1, (.agg #[(i_ y.hi), (i_ y.hp), (b_ y.hl), (u_ y.ra), (u_ y.rb), (u_ y.rc), (u_ y.la), (u_ y.lb), (u_ y.lc), (u_ y.ua), (u_ y.ub), (u_ y.uc), (i_ y.hk), (i_ y.hq)])), (3, (p_ b1)), (4, (p_ b2)), (5, (i_ (wrongR y))), (10, (b_ ((wrongR y) != 0))), (18, (b_ (decide ((oI (fd y.hi l)) ≥ 0))))] [sl al (l.length) cl 30 14 (V.flat encCl l), blk b1 [(i_ y.hi), (i_ y.hp), (b_ y.hl), (u_ y.ra), (u_ y.rb), (u_ y.rc), (u_ y.la), (u_ y.lb), (u_ y.lc), (u_ y.ua), (u_ y.ub), (u_ y.uc), (i_ y.hk), (i_ y.hq)] 30, blk b2 [(.slice al l.length cl), (i_ 8)] 43] [b2] T0 (by kernel_rfl) trivial ?_)
      refine A.tn ?_
      refine A.ret ?_
      refine A.tr ?_
      have hE_ : addER l y = 8 := by unfold addER; first | (simp_all [fd_ge, fd_neg, gcl]; done) | ((have hi0 : ¬ (i : Int) < 0 := by omega); simp [hi0] at *; simp_all [fd_ge, fd_neg, gcl]; done) | (simp_all [fd_ge, fd_neg, gcl]; omega) | grind [fd_ge, fd_neg, gcl]
      refine A.setH [sl al ((addLR l y).length) cl 30 14 (V.flat encCl (addLR l y)), blk b1 [(i_ y.hi), (i_ y.hp), (b_ y.hl), (u_ y.ra), (u_ y.rb), (u_ y.rc), (u_ y.la), (u_ y.lb), (u_ y.lc), (u_ y.ua), (u_ y.ub), (u_ y.uc), (i_ y.hk), (i_ y.hq)] 30, blk b2 [(.slice al l.length cl), (i_ 8)] 43] (cc (slC (by first | rfl | exact (addLR_no (by rw [hE_]; first | decide | assumption)).symm | exact (addLR_ok hE_).symm : l = (addLR l y))) rfl) ?_
      refine A.postK [0] [(.agg #[(.slice al l.length cl), (i_ 8)])] (fun aa ww rr ss => ⟨rv_cellN (vs := [(.slice al l.length cl), (i_ 8)]) rr ss rfl (by kernel_rfl) (reads_blk (i := 2) rfl rfl), trivial⟩) (al, cl) ?_ ?_ (by kernel_rfl)
      · show ((.agg #[(.slice al l.length cl), (i_ 8)]) : Value) = (.agg #[(.slice al ((addLR l y).length) cl), (i_ (addER l y))])
        first | (rw [addLR_no (by rw [hE_]; first | decide | assumption), hE_]; done) | (rw [addLR_ok hE_, hE_]; done)
      · trivial
    · skip
      have p2 := of_decide_eq_false e2
      refine A.skip ?_
      refine A.tn ?_
      refine A.seq ?_
      refine A.seq ?_
      refine A.region (A.goA [.p, .p, .p] [(0, (.slice al l.length cl)), (1, (.agg #[(i_ y.hi), (i_ y.hp), (b_ y.hl), (u_ y.ra), (u_ y.rb), (u_ y.rc), (u_ y.la), (u_ y.lb), (u_ y.lc), (u_ y.ua), (u_ y.ub), (u_ y.uc), (i_ y.hk), (i_ y.hq)])), (3, (p_ b1)), (4, (p_ b2)), (5, (i_ (wrongR y))), (10, (b_ ((wrongR y) != 0))), (18, (b_ (decide ((oI (fd y.hi l)) ≥ 0)))), (23, (b_ ((l.length : Int) == 64)))] [] T0 (by kernel_rfl) trivial ?_)
      refine A.tn ?_
      refine A.cond (E := (l.length : Int) == 64) rfl (fun e3 => ?_) (fun e3 => ?_)
      · skip
        have p3 := e3; try simp only [decide_eq_true_eq, decide_eq_false_iff_not, beq_iff_eq, beq_eq_false_iff_ne, bne_iff_ne, bne_eq_false_iff_eq, ne_eq, Bool.and_eq_true, Bool.or_eq_true, Bool.or_eq_false_iff, Bool.not_eq_true', Bool.not_eq_false', Int.not_lt, Int.not_le, gt_iff_lt, ge_iff_le, Classical.not_not] at p3
        refine A.seq ?_
        refine A.region (A.goAS [.p, .p, .st 2] [(0, (.slice al l.length cl)), (1, (.agg #[(i_ y.hi), (i_ y.hp), (b_ y.hl), (u_ y.ra), (u_ y.rb), (u_ y.rc), (u_ y.la), (u_ y.lb), (u_ y.lc), (u_ y.ua), (u_ y.ub), (u_ y.uc), (i_ y.hk), (i_ y.hq)])), (3, (p_ b1)), (4, (p_ b2)), (5, (i_ (wrongR y))), (10, (b_ ((wrongR y) != 0))), (18, (b_ (decide ((oI (fd y.hi l)) ≥ 0)))), (23, (b_ ((l.length : Int) == 64)))] [sl al (l.length) cl 30 14 (V.flat encCl l), blk b1 [(i_ y.hi), (i_ y.hp), (b_ y.hl), (u_ y.ra), (u_ y.rb), (u_ y.rc), (u_ y.la), (u_ y.lb), (u_ y.lc), (u_ y.ua), (u_ y.ub), (u_ y.uc), (i_ y.hk), (i_ y.hq)] 30, blk b2 [(.slice al l.length cl), (i_ 5)] 43] [b2] T0 (by kernel_rfl) trivial ?_)
        refine A.tn ?_
        refine A.ret ?_
        refine A.tr ?_
        have hE_ : addER l y = 5 := by unfold addER; first | (simp_all [fd_ge, fd_neg, gcl]; done) | ((have hi0 : ¬ (i : Int) < 0 := by omega); simp [hi0] at *; simp_all [fd_ge, fd_neg, gcl]; done) | (simp_all [fd_ge, fd_neg, gcl]; omega) | grind [fd_ge, fd_neg, gcl]
        refine A.setH [sl al ((addLR l y).length) cl 30 14 (V.flat encCl (addLR l y)), blk b1 [(i_ y.hi), (i_ y.hp), (b_ y.hl), (u_ y.ra), (u_ y.rb), (u_ y.rc), (u_ y.la), (u_ y.lb), (u_ y.lc), (u_ y.ua), (u_ y.ub), (u_ y.uc), (i_ y.hk), (i_ y.hq)] 30, blk b2 [(.slice al l.length cl), (i_ 5)] 43] (cc (slC (by first | rfl | exact (addLR_no (by rw [hE_]; first | decide | assumption)).symm | exact (addLR_ok hE_).symm : l = (addLR l y))) rfl) ?_
        refine A.postK [0] [(.agg #[(.slice al l.length cl), (i_ 5)])] (fun aa ww rr ss => ⟨rv_cellN (vs := [(.slice al l.length cl), (i_ 5)]) rr ss rfl (by kernel_rfl) (reads_blk (i := 2) rfl rfl), trivial⟩) (al, cl) ?_ ?_ (by kernel_rfl)
        · show ((.agg #[(.slice al l.length cl), (i_ 5)]) : Value) = (.agg #[(.slice al ((addLR l y).length) cl), (i_ (addER l y))])
          first | (rw [addLR_no (by rw [hE_]; first | decide | assumption), hE_]; done) | (rw [addLR_ok hE_, hE_]; done)
        · trivial
      · skip
        have p3 := e3; try simp only [decide_eq_true_eq, decide_eq_false_iff_not, beq_iff_eq, beq_eq_false_iff_ne, bne_iff_ne, bne_eq_false_iff_eq, ne_eq, Bool.and_eq_true, Bool.or_eq_true, Bool.or_eq_false_iff, Bool.not_eq_true', Bool.not_eq_false', Int.not_lt, Int.not_le, gt_iff_lt, ge_iff_le, Classical.not_not] at p3
        refine A.skip ?_
        refine A.tn ?_
        refine A.seq ?_
        refine A.region (A.goA [.p, .p, .ld 1, .cq (i_ (oI (fd y.hp l))), .p] [(0, (.slice al l.length cl)), (1, (.agg #[(i_ y.hi), (i_ y.hp), (b_ y.hl), (u_ y.ra), (u_ y.rb), (u_ y.rc), (u_ y.la), (u_ y.lb), (u_ y.lc), (u_ y.ua), (u_ y.ub), (u_ y.uc), (i_ y.hk), (i_ y.hq)])), (3, (p_ b1)), (4, (p_ b2)), (5, (i_ (wrongR y))), (10, (b_ ((wrongR y) != 0))), (18, (b_ (decide ((oI (fd y.hi l)) ≥ 0)))), (23, (b_ ((l.length : Int) == 64))), (6, (i_ (oI (fd y.hp l))))] [b1] (fun κ => κ.call 42 [(.slice al l.length cl), (i_ y.hp)] (i_ (oI (fd y.hp l))) ∧ True) (by kernel_rfl) ⟨(fun ww ss => fd_spec al l cl y.hp (by first | assumption | omega) ww ((rd_sl (i := 0) rfl) ww ss)), trivial⟩ ?_)
        refine A.tn ?_
        refine A.seq ?_
        refine A.seq ?_
        by_cases ho : fd y.hp l = none
        · skip
          have hm := fd_no ho
          refine A.sub [(0, (.slice al l.length cl)), (1, (.agg #[(i_ y.hi), (i_ y.hp), (b_ y.hl), (u_ y.ra), (u_ y.rb), (u_ y.rc), (u_ y.la), (u_ y.lb), (u_ y.lc), (u_ y.ua), (u_ y.ub), (u_ y.uc), (i_ y.hk), (i_ y.hq)])), (3, (p_ b1)), (4, (p_ b2)), (5, (i_ (wrongR y))), (10, (b_ ((wrongR y) != 0))), (18, (b_ (decide ((oI (fd y.hi l)) ≥ 0)))), (23, (b_ ((l.length : Int) == 64))), (6, (i_ (-1)))] (by exact ⟨rfl, rfl, rfl, rfl, rfl, rfl, rfl, rfl, (congrArg (fun z_ => some (i_ z_)) (by rw [ho]; rfl : (oI (fd y.hp l)) = -1)), trivial⟩) ?_
          refine A.region (A.goP [.p, .ld 1, .p, .p] [(0, (.slice al l.length cl)), (1, (.agg #[(i_ y.hi), (i_ y.hp), (b_ y.hl), (u_ y.ra), (u_ y.rb), (u_ y.rc), (u_ y.la), (u_ y.lb), (u_ y.lc), (u_ y.ua), (u_ y.ub), (u_ y.uc), (i_ y.hk), (i_ y.hq)])), (3, (p_ b1)), (4, (p_ b2)), (5, (i_ (wrongR y))), (10, (b_ ((wrongR y) != 0))), (18, (b_ (decide ((oI (fd y.hi l)) ≥ 0)))), (23, (b_ ((l.length : Int) == 64))), (6, (i_ (-1))), (33, (b_ (y.hp != 0)))] [b1] T0 (by kernel_rfl) trivial ?_)
          refine A.bool (y.hp != 0) (fun e4 => ?_) (fun e4 => ?_)
          · skip
            refine A.sub [(0, (.slice al l.length cl)), (1, (.agg #[(i_ y.hi), (i_ y.hp), (b_ y.hl), (u_ y.ra), (u_ y.rb), (u_ y.rc), (u_ y.la), (u_ y.lb), (u_ y.lc), (u_ y.ua), (u_ y.ub), (u_ y.uc), (i_ y.hk), (i_ y.hq)])), (3, (p_ b1)), (4, (p_ b2)), (5, (i_ (wrongR y))), (10, (b_ ((wrongR y) != 0))), (18, (b_ (decide ((oI (fd y.hi l)) ≥ 0)))), (23, (b_ ((l.length : Int) == 64))), (6, (i_ (-1))), (33, (b_ true))] (by exact ⟨rfl, rfl, rfl, rfl, rfl, rfl, rfl, rfl, rfl, (congrArg (fun z => some (Value.bool z)) e4), trivial⟩) ?_
            refine A.goA [.p, .p, .p, .sk, .sk, .sk, .sk, .sk, .p, .p] [(0, (.slice al l.length cl)), (1, (.agg #[(i_ y.hi), (i_ y.hp), (b_ y.hl), (u_ y.ra), (u_ y.rb), (u_ y.rc), (u_ y.la), (u_ y.lb), (u_ y.lc), (u_ y.ua), (u_ y.ub), (u_ y.uc), (i_ y.hk), (i_ y.hq)])), (3, (p_ b1)), (4, (p_ b2)), (5, (i_ (wrongR y))), (10, (b_ ((wrongR y) != 0))), (18, (b_ (decide ((oI (fd y.hi l)) ≥ 0)))), (23, (b_ ((l.length : Int) == 64))), (6, (i_ (-1))), (43, (b_ true))] [] T0 (by kernel_rfl) trivial ?_
            refine A.tn ?_
            refine A.cond_t rfl ?_
            refine A.seq ?_
            refine A.region (A.goAS [.p, .p, .st 2] [(0, (.slice al l.length cl)), (1, (.agg #[(i_ y.hi), (i_ y.hp), (b_ y.hl), (u_ y.ra), (u_ y.rb), (u_ y.rc), (u_ y.la), (u_ y.lb), (u_ y.lc), (u_ y.ua), (u_ y.ub), (u_ y.uc), (i_ y.hk), (i_ y.hq)])), (3, (p_ b1)), (4, (p_ b2)), (5, (i_ (wrongR y))), (10, (b_ ((wrongR y) != 0))), (18, (b_ (decide ((oI (fd y.hi l)) ≥ 0)))), (23, (b_ ((l.length : Int) == 64))), (6, (i_ (-1))), (43, (b_ true))] [sl al (l.length) cl 30 14 (V.flat encCl l), blk b1 [(i_ y.hi), (i_ y.hp), (b_ y.hl), (u_ y.ra), (u_ y.rb), (u_ y.rc), (u_ y.la), (u_ y.lb), (u_ y.lc), (u_ y.ua), (u_ y.ub), (u_ y.uc), (i_ y.hk), (i_ y.hq)] 30, blk b2 [(.slice al l.length cl), (i_ 23)] 43] [b2] T0 (by kernel_rfl) trivial ?_)
            refine A.tn ?_
            refine A.ret ?_
            refine A.tr ?_
            have hE_ : addER l y = 23 := by unfold addER; first | (simp_all [fd_ge, fd_neg, gcl]; done) | ((have hi0 : ¬ (i : Int) < 0 := by omega); simp [hi0] at *; simp_all [fd_ge, fd_neg, gcl]; done) | (simp_all [fd_ge, fd_neg, gcl]; omega) | grind [fd_ge, fd_neg, gcl]
            refine A.setH [sl al ((addLR l y).length) cl 30 14 (V.flat encCl (addLR l y)), blk b1 [(i_ y.hi), (i_ y.hp), (b_ y.hl), (u_ y.ra), (u_ y.rb), (u_ y.rc), (u_ y.la), (u_ y.lb), (u_ y.lc), (u_ y.ua), (u_ y.ub), (u_ y.uc), (i_ y.hk), (i_ y.hq)] 30, blk b2 [(.slice al l.length cl), (i_ 23)] 43] (cc (slC (by first | rfl | exact (addLR_no (by rw [hE_]; first | decide | assumption)).symm | exact (addLR_ok hE_).symm : l = (addLR l y))) rfl) ?_
            refine A.postK [0] [(.agg #[(.slice al l.length cl), (i_ 23)])] (fun aa ww rr ss => ⟨rv_cellN (vs := [(.slice al l.length cl), (i_ 23)]) rr ss rfl (by kernel_rfl) (reads_blk (i := 2) rfl rfl), trivial⟩) (al, cl) ?_ ?_ (by kernel_rfl)
            · show ((.agg #[(.slice al l.length cl), (i_ 23)]) : Value) = (.agg #[(.slice al ((addLR l y).length) cl), (i_ (addER l y))])
              first | (rw [addLR_no (by rw [hE_]; first | decide | assumption), hE_]; done) | (rw [addLR_ok hE_, hE_]; done)
            · trivial
          · skip
            refine A.sub [(0, (.slice al l.length cl)), (1, (.agg #[(i_ y.hi), (i_ y.hp), (b_ y.hl), (u_ y.ra), (u_ y.rb), (u_ y.rc), (u_ y.la), (u_ y.lb), (u_ y.lc), (u_ y.ua), (u_ y.ub), (u_ y.uc), (i_ y.hk), (i_ y.hq)])), (3, (p_ b1)), (4, (p_ b2)), (5, (i_ (wrongR y))), (10, (b_ ((wrongR y) != 0))), (18, (b_ (decide ((oI (fd y.hi l)) ≥ 0)))), (23, (b_ ((l.length : Int) == 64))), (6, (i_ (-1))), (33, (b_ false))] (by exact ⟨rfl, rfl, rfl, rfl, rfl, rfl, rfl, rfl, rfl, (congrArg (fun z => some (Value.bool z)) e4), trivial⟩) ?_
            refine A.goA [.sk, .sk, .sk, .sk, .sk, .sk, .sk, .sk, .sk, .p] [(0, (.slice al l.length cl)), (1, (.agg #[(i_ y.hi), (i_ y.hp), (b_ y.hl), (u_ y.ra), (u_ y.rb), (u_ y.rc), (u_ y.la), (u_ y.lb), (u_ y.lc), (u_ y.ua), (u_ y.ub), (u_ y.uc), (i_ y.hk), (i_ y.hq)])), (3, (p_ b1)), (4, (p_ b2)), (5, (i_ (wrongR y))), (10, (b_ ((wrongR y) != 0))), (18, (b_ (decide ((oI (fd y.hi l)) ≥ 0)))), (23, (b_ ((l.length : Int) == 64))), (6, (i_ (-1))), (43, (b_ false))] [] T0 (by kernel_rfl) trivial ?_
            refine A.tn ?_
            refine A.cond_f rfl ?_
            refine A.skip ?_
            refine A.tn ?_
            refine A.seq ?_
            refine A.seq ?_
            refine A.region (A.goA [.p, .ld 1, .cq (i_ (ofR y.la y.lb y.lc)), .p, .p, .o, .p, .p, .ld 1, .cq (b_ (shR l y.hp)), .p, .cl] [(0, (.slice al l.length cl)), (1, (.agg #[(i_ y.hi), (i_ y.hp), (b_ y.hl), (u_ y.ra), (u_ y.rb), (u_ y.rc), (u_ y.la), (u_ y.lb), (u_ y.lc), (u_ y.ua), (u_ y.ub), (u_ y.uc), (i_ y.hk), (i_ y.hq)])), (3, (p_ b1)), (4, (p_ b2)), (5, (i_ (wrongR y))), (10, (b_ ((wrongR y) != 0))), (18, (b_ (decide ((oI (fd y.hi l)) ≥ 0)))), (23, (b_ ((l.length : Int) == 64))), (6, (i_ (-1))), (43, (b_ false)), (56, (b_ ((decide ((ofR y.la y.lb y.lc) > 1)) && (!(shR l y.hp)))))] [b1, b1] (fun κ => κ.call 43 [(.agg #[(u_ y.la), (u_ y.lb), (u_ y.lc)])] (i_ (ofR y.la y.lb y.lc)) ∧ ((true && ((decide ((ofR y.la y.lb y.lc) > 1)) == true)) = true → κ.call 44 [(.slice al l.length cl), (i_ y.hp)] (b_ (shR l y.hp))) ∧ True) (by kernel_rfl) ⟨(fun ww ss => rof_spec y.la y.lb y.lc ww), (fun h_ => (fun ww ss => shR_spec al l cl y.hp (by first | assumption | omega) ww ((rd_sl (i := 0) rfl) ww ss))), trivial⟩ ?_)
            refine A.tn ?_
            refine A.cond (E := (decide ((ofR y.la y.lb y.lc) > 1)) && (!(shR l y.hp))) rfl (fun e5 => ?_) (fun e5 => ?_)
            · skip
              have p5 := e5; try simp only [decide_eq_true_eq, decide_eq_false_iff_not, beq_iff_eq, beq_eq_false_iff_ne, bne_iff_ne, bne_eq_false_iff_eq, ne_eq, Bool.and_eq_true, Bool.or_eq_true, Bool.or_eq_false_iff, Bool.not_eq_true', Bool.not_eq_false', Int.not_lt, Int.not_le, gt_iff_lt, ge_iff_le, Classical.not_not] at p5
              refine A.seq ?_
              refine A.region (A.goAS [.p, .p, .st 2] [(0, (.slice al l.length cl)), (1, (.agg #[(i_ y.hi), (i_ y.hp), (b_ y.hl), (u_ y.ra), (u_ y.rb), (u_ y.rc), (u_ y.la), (u_ y.lb), (u_ y.lc), (u_ y.ua), (u_ y.ub), (u_ y.uc), (i_ y.hk), (i_ y.hq)])), (3, (p_ b1)), (4, (p_ b2)), (5, (i_ (wrongR y))), (10, (b_ ((wrongR y) != 0))), (18, (b_ (decide ((oI (fd y.hi l)) ≥ 0)))), (23, (b_ ((l.length : Int) == 64))), (6, (i_ (-1))), (43, (b_ false)), (56, (b_ ((decide ((ofR y.la y.lb y.lc) > 1)) && (!(shR l y.hp)))))] [sl al (l.length) cl 30 14 (V.flat encCl l), blk b1 [(i_ y.hi), (i_ y.hp), (b_ y.hl), (u_ y.ra), (u_ y.rb), (u_ y.rc), (u_ y.la), (u_ y.lb), (u_ y.lc), (u_ y.ua), (u_ y.ub), (u_ y.uc), (i_ y.hk), (i_ y.hq)] 30, blk b2 [(.slice al l.length cl), (i_ 29)] 43] [b2] T0 (by kernel_rfl) trivial ?_)
              refine A.tn ?_
              refine A.ret ?_
              refine A.tr ?_
              have hE_ : addER l y = 29 := by unfold addER; first | (simp_all [fd_ge, fd_neg, gcl]; done) | ((have hi0 : ¬ (i : Int) < 0 := by omega); simp [hi0] at *; simp_all [fd_ge, fd_neg, gcl]; done) | (simp_all [fd_ge, fd_neg, gcl]; omega) | grind [fd_ge, fd_neg, gcl]
              refine A.setH [sl al ((addLR l y).length) cl 30 14 (V.flat encCl (addLR l y)), blk b1 [(i_ y.hi), (i_ y.hp), (b_ y.hl), (u_ y.ra), (u_ y.rb), (u_ y.rc), (u_ y.la), (u_ y.lb), (u_ y.lc), (u_ y.ua), (u_ y.ub), (u_ y.uc), (i_ y.hk), (i_ y.hq)] 30, blk b2 [(.slice al l.length cl), (i_ 29)] 43] (cc (slC (by first | rfl | exact (addLR_no (by rw [hE_]; first | decide | assumption)).symm | exact (addLR_ok hE_).symm : l = (addLR l y))) rfl) ?_
              refine A.postK [0] [(.agg #[(.slice al l.length cl), (i_ 29)])] (fun aa ww rr ss => ⟨rv_cellN (vs := [(.slice al l.length cl), (i_ 29)]) rr ss rfl (by kernel_rfl) (reads_blk (i := 2) rfl rfl), trivial⟩) (al, cl) ?_ ?_ (by kernel_rfl)
              · show ((.agg #[(.slice al l.length cl), (i_ 29)]) : Value) = (.agg #[(.slice al ((addLR l y).length) cl), (i_ (addER l y))])
                first | (rw [addLR_no (by rw [hE_]; first | decide | assumption), hE_]; done) | (rw [addLR_ok hE_, hE_]; done)
              · trivial
            · skip
              have p5 := e5; try simp only [decide_eq_true_eq, decide_eq_false_iff_not, beq_iff_eq, beq_eq_false_iff_ne, bne_iff_ne, bne_eq_false_iff_eq, ne_eq, Bool.and_eq_true, Bool.or_eq_true, Bool.or_eq_false_iff, Bool.not_eq_true', Bool.not_eq_false', Int.not_lt, Int.not_le, gt_iff_lt, ge_iff_le, Classical.not_not] at p5
              refine A.skip ?_
              refine A.tn ?_
              refine A.seq ?_
              refine A.seq ?_
              refine A.region (A.goP [.p, .p, .ld 1] [(0, (.slice al l.length cl)), (1, (.agg #[(i_ y.hi), (i_ y.hp), (b_ y.hl), (u_ y.ra), (u_ y.rb), (u_ y.rc), (u_ y.la), (u_ y.lb), (u_ y.lc), (u_ y.ua), (u_ y.ub), (u_ y.uc), (i_ y.hk), (i_ y.hq)])), (3, (p_ b1)), (4, (p_ b2)), (5, (i_ (wrongR y))), (10, (b_ ((wrongR y) != 0))), (18, (b_ (decide ((oI (fd y.hi l)) ≥ 0)))), (23, (b_ ((l.length : Int) == 64))), (6, (i_ (-1))), (43, (b_ false)), (56, (b_ ((decide ((ofR y.la y.lb y.lc) > 1)) && (!(shR l y.hp))))), (59, (.slice al l.length cl)), (61, (i_ y.hp))] [b1] T0 (by kernel_rfl) trivial ?_)
              refine A.cons (A.callT (some 62) [(.slice al l.length cl), (i_ y.hp)] [] ((fun zz => match zz with | (al'3, cl'4) => (.slice al'3 ((upL (kvl l) y.hp (upD l y.hp)).length) cl'4))) ((fun zz => match zz with | (al'3, cl'4) => True)) ((fun zz => match zz with | (al'3, cl'4) => [sl al'3 ((upL (kvl l) y.hp (upD l y.hp)).length) cl'4 3 1 (V.flat encI (upL (kvl l) y.hp (upD l y.hp)))])) (fun zz => match zz with | (al'3, cl'4) => [sl al'3 ((upL (kvl l) y.hp (upD l y.hp)).length) cl'4 3 1 (V.flat encI (upL (kvl l) y.hp (upD l y.hp))), sl al (l.length) cl 30 14 (V.flat encCl l), blk b1 [(i_ y.hi), (i_ y.hp), (b_ y.hl), (u_ y.ra), (u_ y.rb), (u_ y.rc), (u_ y.la), (u_ y.lb), (u_ y.lc), (u_ y.ua), (u_ y.ub), (u_ y.uc), (i_ y.hk), (i_ y.hq)] 30, blk b2 [e_, (i_ 0)] 43]) (by kernel_rfl) rfl rfl (fun ww ss hh => upR_spec al l cl y.hp (by first | assumption | omega) ww ((rd_sl (i := 0) rfl) ww ss) hh) (fun _ => rfl) ?_)
              rintro ⟨al'3, cl'4⟩ -
              refine A.goA [.p, .p] [(0, (.slice al l.length cl)), (1, (.agg #[(i_ y.hi), (i_ y.hp), (b_ y.hl), (u_ y.ra), (u_ y.rb), (u_ y.rc), (u_ y.la), (u_ y.lb), (u_ y.lc), (u_ y.ua), (u_ y.ub), (u_ y.uc), (i_ y.hk), (i_ y.hq)])), (3, (p_ b1)), (4, (p_ b2)), (5, (i_ (wrongR y))), (10, (b_ ((wrongR y) != 0))), (18, (b_ (decide ((oI (fd y.hi l)) ≥ 0)))), (23, (b_ ((l.length : Int) == 64))), (6, (i_ (-1))), (43, (b_ false)), (56, (b_ ((decide ((ofR y.la y.lb y.lc) > 1)) && (!(shR l y.hp))))), (64, (b_ (decide (((upL (kvl l) y.hp (upD l y.hp)).length : Int) ≥ 16))))] [] T0 (by kernel_rfl) trivial ?_
              refine A.tn ?_
              refine A.cond (E := decide (((upL (kvl l) y.hp (upD l y.hp)).length : Int) ≥ 16)) rfl (fun e7 => ?_) (fun e7 => ?_)
              · skip
                have p7 := of_decide_eq_true e7
                refine A.seq ?_
                refine A.region (A.goAS [.p, .p, .st 3] [(0, (.slice al l.length cl)), (1, (.agg #[(i_ y.hi), (i_ y.hp), (b_ y.hl), (u_ y.ra), (u_ y.rb), (u_ y.rc), (u_ y.la), (u_ y.lb), (u_ y.lc), (u_ y.ua), (u_ y.ub), (u_ y.uc), (i_ y.hk), (i_ y.hq)])), (3, (p_ b1)), (4, (p_ b2)), (5, (i_ (wrongR y))), (10, (b_ ((wrongR y) != 0))), (18, (b_ (decide ((oI (fd y.hi l)) ≥ 0)))), (23, (b_ ((l.length : Int) == 64))), (6, (i_ (-1))), (43, (b_ false)), (56, (b_ ((decide ((ofR y.la y.lb y.lc) > 1)) && (!(shR l y.hp))))), (64, (b_ (decide (((upL (kvl l) y.hp (upD l y.hp)).length : Int) ≥ 16))))] [sl al'3 ((upL (kvl l) y.hp (upD l y.hp)).length) cl'4 3 1 (V.flat encI (upL (kvl l) y.hp (upD l y.hp))), sl al (l.length) cl 30 14 (V.flat encCl l), blk b1 [(i_ y.hi), (i_ y.hp), (b_ y.hl), (u_ y.ra), (u_ y.rb), (u_ y.rc), (u_ y.la), (u_ y.lb), (u_ y.lc), (u_ y.ua), (u_ y.ub), (u_ y.uc), (i_ y.hk), (i_ y.hq)] 30, blk b2 [(.slice al l.length cl), (i_ 25)] 43] [b2] T0 (by kernel_rfl) trivial ?_)
                refine A.tn ?_
                refine A.ret ?_
                refine A.tr ?_
                have hE_ : addER l y = 25 := by unfold addER; first | (simp_all [fd_ge, fd_neg, gcl]; done) | ((have hi0 : ¬ (i : Int) < 0 := by omega); simp [hi0] at *; simp_all [fd_ge, fd_neg, gcl]; done) | (simp_all [fd_ge, fd_neg, gcl]; omega) | grind [fd_ge, fd_neg, gcl]
                refine A.setH [sl al'3 ((upL (kvl l) y.hp (upD l y.hp)).length) cl'4 3 1 (V.flat encI (upL (kvl l) y.hp (upD l y.hp))), sl al ((addLR l y).length) cl 30 14 (V.flat encCl (addLR l y)), blk b1 [(i_ y.hi), (i_ y.hp), (b_ y.hl), (u_ y.ra), (u_ y.rb), (u_ y.rc), (u_ y.la), (u_ y.lb), (u_ y.lc), (u_ y.ua), (u_ y.ub), (u_ y.uc), (i_ y.hk), (i_ y.hq)] 30, blk b2 [(.slice al l.length cl), (i_ 25)] 43] (cc rfl (cc (slC (by first | rfl | exact (addLR_no (by rw [hE_]; first | decide | assumption)).symm | exact (addLR_ok hE_).symm : l = (addLR l y))) rfl)) ?_
                refine A.postK [1] [(.agg #[(.slice al l.length cl), (i_ 25)])] (fun aa ww rr ss => ⟨rv_cellN (vs := [(.slice al l.length cl), (i_ 25)]) rr ss rfl (by kernel_rfl) (reads_blk (i := 3) rfl rfl), trivial⟩) (al, cl) ?_ ?_ (by kernel_rfl)
                · show ((.agg #[(.slice al l.length cl), (i_ 25)]) : Value) = (.agg #[(.slice al ((addLR l y).length) cl), (i_ (addER l y))])
                  first | (rw [addLR_no (by rw [hE_]; first | decide | assumption), hE_]; done) | (rw [addLR_ok hE_, hE_]; done)
                · trivial
              · skip
                have p7 := of_decide_eq_false e7
                refine A.skip ?_
                refine A.tn ?_
                refine A.seq ?_
                refine A.region (A.goP [.p, .ld 2] [(0, (.slice al l.length cl)), (1, (.agg #[(i_ y.hi), (i_ y.hp), (b_ y.hl), (u_ y.ra), (u_ y.rb), (u_ y.rc), (u_ y.la), (u_ y.lb), (u_ y.lc), (u_ y.ua), (u_ y.ub), (u_ y.uc), (i_ y.hk), (i_ y.hq)])), (3, (p_ b1)), (4, (p_ b2)), (5, (i_ (wrongR y))), (10, (b_ ((wrongR y) != 0))), (18, (b_ (decide ((oI (fd y.hi l)) ≥ 0)))), (23, (b_ ((l.length : Int) == 64))), (6, (i_ (-1))), (43, (b_ false)), (56, (b_ ((decide ((ofR y.la y.lb y.lc) > 1)) && (!(shR l y.hp))))), (64, (b_ (decide (((upL (kvl l) y.hp (upD l y.hp)).length : Int) ≥ 16)))), (67, (.slice al l.length cl)), (68, (.agg #[(i_ y.hi), (i_ y.hp), (b_ y.hl), (u_ y.ra), (u_ y.rb), (u_ y.rc), (u_ y.la), (u_ y.lb), (u_ y.lc), (u_ y.ua), (u_ y.ub), (u_ y.uc), (i_ y.hk), (i_ y.hq)]))] [b1] T0 (by kernel_rfl) trivial ?_)
                refine A.cons (A.callT (some 69) [(.slice al l.length cl), (.agg #[(i_ y.hi), (i_ y.hp), (b_ y.hl), (u_ y.ra), (u_ y.rb), (u_ y.rc), (u_ y.la), (u_ y.lb), (u_ y.lc), (u_ y.ua), (u_ y.ub), (u_ y.uc), (i_ y.hk), (i_ y.hq)])] [] ((fun zz => match zz with | (al'6, cl'7) => (.slice al'6 ((setL y l).length) cl'7))) ((fun zz => match zz with | (al'6, cl'7) => True)) ((fun zz => match zz with | (al'6, cl'7) => [sl al'6 ((setL y l).length) cl'7 30 14 (V.flat encCl (setL y l))])) (fun zz => match zz with | (al'6, cl'7) => [sl al'6 ((setL y l).length) cl'7 30 14 (V.flat encCl (setL y l)), sl al'3 ((upL (kvl l) y.hp (upD l y.hp)).length) cl'4 3 1 (V.flat encI (upL (kvl l) y.hp (upD l y.hp))), sl al (l.length) cl 30 14 (V.flat encCl l), blk b1 [(i_ y.hi), (i_ y.hp), (b_ y.hl), (u_ y.ra), (u_ y.rb), (u_ y.rc), (u_ y.la), (u_ y.lb), (u_ y.lc), (u_ y.ua), (u_ y.ub), (u_ y.uc), (i_ y.hk), (i_ y.hq)] 30, blk b2 [e_, (i_ 0)] 43]) (by kernel_rfl) rfl rfl (fun ww ss hh => put_spec al l cl y (by first | assumption | omega) ww ((rd_sl (i := 1) rfl) ww ss) hh) (fun _ => rfl) ?_)
                rintro ⟨al'6, cl'7⟩ -
                refine A.goAS [.p, .st 4] [(0, (.slice al l.length cl)), (1, (.agg #[(i_ y.hi), (i_ y.hp), (b_ y.hl), (u_ y.ra), (u_ y.rb), (u_ y.rc), (u_ y.la), (u_ y.lb), (u_ y.lc), (u_ y.ua), (u_ y.ub), (u_ y.uc), (i_ y.hk), (i_ y.hq)])), (3, (p_ b1)), (4, (p_ b2)), (5, (i_ (wrongR y))), (10, (b_ ((wrongR y) != 0))), (18, (b_ (decide ((oI (fd y.hi l)) ≥ 0)))), (23, (b_ ((l.length : Int) == 64))), (6, (i_ (-1))), (43, (b_ false)), (56, (b_ ((decide ((ofR y.la y.lb y.lc) > 1)) && (!(shR l y.hp))))), (64, (b_ (decide (((upL (kvl l) y.hp (upD l y.hp)).length : Int) ≥ 16))))] [sl al'6 ((setL y l).length) cl'7 30 14 (V.flat encCl (setL y l)), sl al'3 ((upL (kvl l) y.hp (upD l y.hp)).length) cl'4 3 1 (V.flat encI (upL (kvl l) y.hp (upD l y.hp))), sl al (l.length) cl 30 14 (V.flat encCl l), blk b1 [(i_ y.hi), (i_ y.hp), (b_ y.hl), (u_ y.ra), (u_ y.rb), (u_ y.rc), (u_ y.la), (u_ y.lb), (u_ y.lc), (u_ y.ua), (u_ y.ub), (u_ y.uc), (i_ y.hk), (i_ y.hq)] 30, blk b2 [(.slice al'6 ((setL y l).length) cl'7), (i_ 0)] 43] [b2] T0 (by kernel_rfl) trivial ?_
                refine A.tn ?_
                refine A.ret ?_
                have hE_ : addER l y = 0 := by unfold addER; first | (simp_all [fd_ge, fd_neg, gcl]; done) | ((have hi0 : ¬ (i : Int) < 0 := by omega); simp [hi0] at *; simp_all [fd_ge, fd_neg, gcl]; done) | (simp_all [fd_ge, fd_neg, gcl]; omega) | grind [fd_ge, fd_neg, gcl]
                refine A.setH [sl al'6 ((addLR l y).length) cl'7 30 14 (V.flat encCl (addLR l y)), sl al'3 ((upL (kvl l) y.hp (upD l y.hp)).length) cl'4 3 1 (V.flat encI (upL (kvl l) y.hp (upD l y.hp))), sl al (l.length) cl 30 14 (V.flat encCl l), blk b1 [(i_ y.hi), (i_ y.hp), (b_ y.hl), (u_ y.ra), (u_ y.rb), (u_ y.rc), (u_ y.la), (u_ y.lb), (u_ y.lc), (u_ y.ua), (u_ y.ub), (u_ y.uc), (i_ y.hk), (i_ y.hq)] 30, blk b2 [(.slice al'6 ((setL y l).length) cl'7), (i_ 0)] 43] (cc (slC (by first | rfl | exact (addLR_no (by rw [hE_]; first | decide | assumption)).symm | exact (addLR_ok hE_).symm : (setL y l) = (addLR l y))) rfl) ?_
                refine A.postK [0] [(.agg #[(.slice al'6 ((setL y l).length) cl'7), (i_ 0)])] (fun aa ww rr ss => ⟨rv_cellN (vs := [(.slice al'6 ((setL y l).length) cl'7), (i_ 0)]) rr ss rfl (by kernel_rfl) (reads_blk (i := 4) rfl rfl), trivial⟩) (al'6, cl'7) ?_ ?_ (by kernel_rfl)
                · show ((.agg #[(.slice al'6 ((setL y l).length) cl'7), (i_ 0)]) : Value) = (.agg #[(.slice al'6 ((addLR l y).length) cl'7), (i_ (addER l y))])
                  first | (rw [addLR_no (by rw [hE_]; first | decide | assumption), hE_]; done) | (rw [addLR_ok hE_, hE_]; done)
                · trivial
        · skip
          obtain ⟨i, hi⟩ := Option.ne_none_iff_exists'.1 ho; obtain ⟨x, hx, hm⟩ := fd_yes hi; have hlt := (List.getElem?_eq_some_iff.1 hx).1
          refine A.sub [(0, (.slice al l.length cl)), (1, (.agg #[(i_ y.hi), (i_ y.hp), (b_ y.hl), (u_ y.ra), (u_ y.rb), (u_ y.rc), (u_ y.la), (u_ y.lb), (u_ y.lc), (u_ y.ua), (u_ y.ub), (u_ y.uc), (i_ y.hk), (i_ y.hq)])), (3, (p_ b1)), (4, (p_ b2)), (5, (i_ (wrongR y))), (10, (b_ ((wrongR y) != 0))), (18, (b_ (decide ((oI (fd y.hi l)) ≥ 0)))), (23, (b_ ((l.length : Int) == 64))), (6, (i_ (i : Int)))] (by exact ⟨rfl, rfl, rfl, rfl, rfl, rfl, rfl, rfl, (congrArg (fun z_ => some (i_ z_)) (by rw [hi]; rfl : (oI (fd y.hp l)) = (i : Int))), trivial⟩) ?_
          refine A.region (A.goA [.p, .ld 1, .p, .p, .o, .p, .p, .p, .o, .p, .p, .ix, .p, .rd [(b_ x.hl)], .cl, .cl] [(0, (.slice al l.length cl)), (1, (.agg #[(i_ y.hi), (i_ y.hp), (b_ y.hl), (u_ y.ra), (u_ y.rb), (u_ y.rc), (u_ y.la), (u_ y.lb), (u_ y.lc), (u_ y.ua), (u_ y.ub), (u_ y.uc), (i_ y.hk), (i_ y.hq)])), (3, (p_ b1)), (4, (p_ b2)), (5, (i_ (wrongR y))), (10, (b_ ((wrongR y) != 0))), (18, (b_ (decide ((oI (fd y.hi l)) ≥ 0)))), (23, (b_ ((l.length : Int) == 64))), (6, (i_ (i : Int))), (43, (b_ ((y.hp != 0) && ((decide ((i : Int) < 0)) || x.hl))))] [b1] (fun κ => (((true && ((y.hp != 0) == true)) && ((decide ((i : Int) < 0)) == false)) = true → κ.ix al l.length (i : Int)) ∧ (((true && ((y.hp != 0) == true)) && ((decide ((i : Int) < 0)) == false)) = true → κ.rd (((at0 al).add (i * 14)).add 2) [(b_ x.hl)]) ∧ True) (by kernel_rfl) ⟨(fun h_ => (ixOf encCl_len (by decide) (rd_sl (i := 0) rfl) (by first | omega | (simp; omega) | (simp; done)))), (fun h_ => (reads_at2 (f := 2) (vs := [(b_ x.hl)]) encCl_len (rd_sl (i := 0) rfl) hx (by simp) rfl)), trivial⟩ ?_)
          refine A.tn ?_
          refine A.cond (E := (y.hp != 0) && ((decide ((i : Int) < 0)) || x.hl)) rfl (fun e9 => ?_) (fun e9 => ?_)
          · skip
            have p9 := e9; try simp only [decide_eq_true_eq, decide_eq_false_iff_not, beq_iff_eq, beq_eq_false_iff_ne, bne_iff_ne, bne_eq_false_iff_eq, ne_eq, Bool.and_eq_true, Bool.or_eq_true, Bool.or_eq_false_iff, Bool.not_eq_true', Bool.not_eq_false', Int.not_lt, Int.not_le, gt_iff_lt, ge_iff_le, Classical.not_not] at p9
            refine A.seq ?_
            refine A.region (A.goAS [.p, .p, .st 2] [(0, (.slice al l.length cl)), (1, (.agg #[(i_ y.hi), (i_ y.hp), (b_ y.hl), (u_ y.ra), (u_ y.rb), (u_ y.rc), (u_ y.la), (u_ y.lb), (u_ y.lc), (u_ y.ua), (u_ y.ub), (u_ y.uc), (i_ y.hk), (i_ y.hq)])), (3, (p_ b1)), (4, (p_ b2)), (5, (i_ (wrongR y))), (10, (b_ ((wrongR y) != 0))), (18, (b_ (decide ((oI (fd y.hi l)) ≥ 0)))), (23, (b_ ((l.length : Int) == 64))), (6, (i_ (i : Int))), (43, (b_ ((y.hp != 0) && ((decide ((i : Int) < 0)) || x.hl))))] [sl al (l.length) cl 30 14 (V.flat encCl l), blk b1 [(i_ y.hi), (i_ y.hp), (b_ y.hl), (u_ y.ra), (u_ y.rb), (u_ y.rc), (u_ y.la), (u_ y.lb), (u_ y.lc), (u_ y.ua), (u_ y.ub), (u_ y.uc), (i_ y.hk), (i_ y.hq)] 30, blk b2 [(.slice al l.length cl), (i_ 23)] 43] [b2] T0 (by kernel_rfl) trivial ?_)
            refine A.tn ?_
            refine A.ret ?_
            refine A.tr ?_
            have hE_ : addER l y = 23 := by unfold addER; first | (simp_all [fd_ge, fd_neg, gcl]; done) | ((have hi0 : ¬ (i : Int) < 0 := by omega); simp [hi0] at *; simp_all [fd_ge, fd_neg, gcl]; done) | (simp_all [fd_ge, fd_neg, gcl]; omega) | grind [fd_ge, fd_neg, gcl]
            refine A.setH [sl al ((addLR l y).length) cl 30 14 (V.flat encCl (addLR l y)), blk b1 [(i_ y.hi), (i_ y.hp), (b_ y.hl), (u_ y.ra), (u_ y.rb), (u_ y.rc), (u_ y.la), (u_ y.lb), (u_ y.lc), (u_ y.ua), (u_ y.ub), (u_ y.uc), (i_ y.hk), (i_ y.hq)] 30, blk b2 [(.slice al l.length cl), (i_ 23)] 43] (cc (slC (by first | rfl | exact (addLR_no (by rw [hE_]; first | decide | assumption)).symm | exact (addLR_ok hE_).symm : l = (addLR l y))) rfl) ?_
            refine A.postK [0] [(.agg #[(.slice al l.length cl), (i_ 23)])] (fun aa ww rr ss => ⟨rv_cellN (vs := [(.slice al l.length cl), (i_ 23)]) rr ss rfl (by kernel_rfl) (reads_blk (i := 2) rfl rfl), trivial⟩) (al, cl) ?_ ?_ (by kernel_rfl)
            · show ((.agg #[(.slice al l.length cl), (i_ 23)]) : Value) = (.agg #[(.slice al ((addLR l y).length) cl), (i_ (addER l y))])
              first | (rw [addLR_no (by rw [hE_]; first | decide | assumption), hE_]; done) | (rw [addLR_ok hE_, hE_]; done)
            · trivial
          · skip
            have p9 := e9; try simp only [decide_eq_true_eq, decide_eq_false_iff_not, beq_iff_eq, beq_eq_false_iff_ne, bne_iff_ne, bne_eq_false_iff_eq, ne_eq, Bool.and_eq_true, Bool.or_eq_true, Bool.or_eq_false_iff, Bool.not_eq_true', Bool.not_eq_false', Int.not_lt, Int.not_le, gt_iff_lt, ge_iff_le, Classical.not_not] at p9
            refine A.skip ?_
            refine A.tn ?_
            refine A.seq ?_
            refine A.seq ?_
            refine A.region (A.goA [.p, .ld 1, .cq (i_ (ofR y.la y.lb y.lc)), .p, .p, .o, .p, .p, .ld 1, .cq (b_ (shR l y.hp)), .p, .cl] [(0, (.slice al l.length cl)), (1, (.agg #[(i_ y.hi), (i_ y.hp), (b_ y.hl), (u_ y.ra), (u_ y.rb), (u_ y.rc), (u_ y.la), (u_ y.lb), (u_ y.lc), (u_ y.ua), (u_ y.ub), (u_ y.uc), (i_ y.hk), (i_ y.hq)])), (3, (p_ b1)), (4, (p_ b2)), (5, (i_ (wrongR y))), (10, (b_ ((wrongR y) != 0))), (18, (b_ (decide ((oI (fd y.hi l)) ≥ 0)))), (23, (b_ ((l.length : Int) == 64))), (6, (i_ (i : Int))), (43, (b_ ((y.hp != 0) && ((decide ((i : Int) < 0)) || x.hl)))), (56, (b_ ((decide ((ofR y.la y.lb y.lc) > 1)) && (!(shR l y.hp)))))] [b1, b1] (fun κ => κ.call 43 [(.agg #[(u_ y.la), (u_ y.lb), (u_ y.lc)])] (i_ (ofR y.la y.lb y.lc)) ∧ ((true && ((decide ((ofR y.la y.lb y.lc) > 1)) == true)) = true → κ.call 44 [(.slice al l.length cl), (i_ y.hp)] (b_ (shR l y.hp))) ∧ True) (by kernel_rfl) ⟨(fun ww ss => rof_spec y.la y.lb y.lc ww), (fun h_ => (fun ww ss => shR_spec al l cl y.hp (by first | assumption | omega) ww ((rd_sl (i := 0) rfl) ww ss))), trivial⟩ ?_)
            refine A.tn ?_
            refine A.cond (E := (decide ((ofR y.la y.lb y.lc) > 1)) && (!(shR l y.hp))) rfl (fun e10 => ?_) (fun e10 => ?_)
            · skip
              have p10 := e10; try simp only [decide_eq_true_eq, decide_eq_false_iff_not, beq_iff_eq, beq_eq_false_iff_ne, bne_iff_ne, bne_eq_false_iff_eq, ne_eq, Bool.and_eq_true, Bool.or_eq_true, Bool.or_eq_false_iff, Bool.not_eq_true', Bool.not_eq_false', Int.not_lt, Int.not_le, gt_iff_lt, ge_iff_le, Classical.not_not] at p10
              refine A.seq ?_
              refine A.region (A.goAS [.p, .p, .st 2] [(0, (.slice al l.length cl)), (1, (.agg #[(i_ y.hi), (i_ y.hp), (b_ y.hl), (u_ y.ra), (u_ y.rb), (u_ y.rc), (u_ y.la), (u_ y.lb), (u_ y.lc), (u_ y.ua), (u_ y.ub), (u_ y.uc), (i_ y.hk), (i_ y.hq)])), (3, (p_ b1)), (4, (p_ b2)), (5, (i_ (wrongR y))), (10, (b_ ((wrongR y) != 0))), (18, (b_ (decide ((oI (fd y.hi l)) ≥ 0)))), (23, (b_ ((l.length : Int) == 64))), (6, (i_ (i : Int))), (43, (b_ ((y.hp != 0) && ((decide ((i : Int) < 0)) || x.hl)))), (56, (b_ ((decide ((ofR y.la y.lb y.lc) > 1)) && (!(shR l y.hp)))))] [sl al (l.length) cl 30 14 (V.flat encCl l), blk b1 [(i_ y.hi), (i_ y.hp), (b_ y.hl), (u_ y.ra), (u_ y.rb), (u_ y.rc), (u_ y.la), (u_ y.lb), (u_ y.lc), (u_ y.ua), (u_ y.ub), (u_ y.uc), (i_ y.hk), (i_ y.hq)] 30, blk b2 [(.slice al l.length cl), (i_ 29)] 43] [b2] T0 (by kernel_rfl) trivial ?_)
              refine A.tn ?_
              refine A.ret ?_
              refine A.tr ?_
              have hE_ : addER l y = 29 := by unfold addER; first | (simp_all [fd_ge, fd_neg, gcl]; done) | ((have hi0 : ¬ (i : Int) < 0 := by omega); simp [hi0] at *; simp_all [fd_ge, fd_neg, gcl]; done) | (simp_all [fd_ge, fd_neg, gcl]; omega) | grind [fd_ge, fd_neg, gcl]
              refine A.setH [sl al ((addLR l y).length) cl 30 14 (V.flat encCl (addLR l y)), blk b1 [(i_ y.hi), (i_ y.hp), (b_ y.hl), (u_ y.ra), (u_ y.rb), (u_ y.rc), (u_ y.la), (u_ y.lb), (u_ y.lc), (u_ y.ua), (u_ y.ub), (u_ y.uc), (i_ y.hk), (i_ y.hq)] 30, blk b2 [(.slice al l.length cl), (i_ 29)] 43] (cc (slC (by first | rfl | exact (addLR_no (by rw [hE_]; first | decide | assumption)).symm | exact (addLR_ok hE_).symm : l = (addLR l y))) rfl) ?_
              refine A.postK [0] [(.agg #[(.slice al l.length cl), (i_ 29)])] (fun aa ww rr ss => ⟨rv_cellN (vs := [(.slice al l.length cl), (i_ 29)]) rr ss rfl (by kernel_rfl) (reads_blk (i := 2) rfl rfl), trivial⟩) (al, cl) ?_ ?_ (by kernel_rfl)
              · show ((.agg #[(.slice al l.length cl), (i_ 29)]) : Value) = (.agg #[(.slice al ((addLR l y).length) cl), (i_ (addER l y))])
                first | (rw [addLR_no (by rw [hE_]; first | decide | assumption), hE_]; done) | (rw [addLR_ok hE_, hE_]; done)
              · trivial
            · skip
              have p10 := e10; try simp only [decide_eq_true_eq, decide_eq_false_iff_not, beq_iff_eq, beq_eq_false_iff_ne, bne_iff_ne, bne_eq_false_iff_eq, ne_eq, Bool.and_eq_true, Bool.or_eq_true, Bool.or_eq_false_iff, Bool.not_eq_true', Bool.not_eq_false', Int.not_lt, Int.not_le, gt_iff_lt, ge_iff_le, Classical.not_not] at p10
              refine A.skip ?_
              refine A.tn ?_
              refine A.seq ?_
              refine A.seq ?_
              refine A.region (A.goP [.p, .p, .ld 1] [(0, (.slice al l.length cl)), (1, (.agg #[(i_ y.hi), (i_ y.hp), (b_ y.hl), (u_ y.ra), (u_ y.rb), (u_ y.rc), (u_ y.la), (u_ y.lb), (u_ y.lc), (u_ y.ua), (u_ y.ub), (u_ y.uc), (i_ y.hk), (i_ y.hq)])), (3, (p_ b1)), (4, (p_ b2)), (5, (i_ (wrongR y))), (10, (b_ ((wrongR y) != 0))), (18, (b_ (decide ((oI (fd y.hi l)) ≥ 0)))), (23, (b_ ((l.length : Int) == 64))), (6, (i_ (i : Int))), (43, (b_ ((y.hp != 0) && ((decide ((i : Int) < 0)) || x.hl)))), (56, (b_ ((decide ((ofR y.la y.lb y.lc) > 1)) && (!(shR l y.hp))))), (59, (.slice al l.length cl)), (61, (i_ y.hp))] [b1] T0 (by kernel_rfl) trivial ?_)
              refine A.cons (A.callT (some 62) [(.slice al l.length cl), (i_ y.hp)] [] ((fun zz => match zz with | (al'9, cl'10) => (.slice al'9 ((upL (kvl l) y.hp (upD l y.hp)).length) cl'10))) ((fun zz => match zz with | (al'9, cl'10) => True)) ((fun zz => match zz with | (al'9, cl'10) => [sl al'9 ((upL (kvl l) y.hp (upD l y.hp)).length) cl'10 3 1 (V.flat encI (upL (kvl l) y.hp (upD l y.hp)))])) (fun zz => match zz with | (al'9, cl'10) => [sl al'9 ((upL (kvl l) y.hp (upD l y.hp)).length) cl'10 3 1 (V.flat encI (upL (kvl l) y.hp (upD l y.hp))), sl al (l.length) cl 30 14 (V.flat encCl l), blk b1 [(i_ y.hi), (i_ y.hp), (b_ y.hl), (u_ y.ra), (u_ y.rb), (u_ y.rc), (u_ y.la), (u_ y.lb), (u_ y.lc), (u_ y.ua), (u_ y.ub), (u_ y.uc), (i_ y.hk), (i_ y.hq)] 30, blk b2 [e_, (i_ 0)] 43]) (by kernel_rfl) rfl rfl (fun ww ss hh => upR_spec al l cl y.hp (by first | assumption | omega) ww ((rd_sl (i := 0) rfl) ww ss) hh) (fun _ => rfl) ?_)
              rintro ⟨al'9, cl'10⟩ -
              refine A.goA [.p, .p] [(0, (.slice al l.length cl)), (1, (.agg #[(i_ y.hi), (i_ y.hp), (b_ y.hl), (u_ y.ra), (u_ y.rb), (u_ y.rc), (u_ y.la), (u_ y.lb), (u_ y.lc), (u_ y.ua), (u_ y.ub), (u_ y.uc), (i_ y.hk), (i_ y.hq)])), (3, (p_ b1)), (4, (p_ b2)), (5, (i_ (wrongR y))), (10, (b_ ((wrongR y) != 0))), (18, (b_ (decide ((oI (fd y.hi l)) ≥ 0)))), (23, (b_ ((l.length : Int) == 64))), (6, (i_ (i : Int))), (43, (b_ ((y.hp != 0) && ((decide ((i : Int) < 0)) || x.hl)))), (56, (b_ ((decide ((ofR y.la y.lb y.lc) > 1)) && (!(shR l y.hp))))), (64, (b_ (decide (((upL (kvl l) y.hp (upD l y.hp)).length : Int) ≥ 16))))] [] T0 (by kernel_rfl) trivial ?_
              refine A.tn ?_
              refine A.cond (E := decide (((upL (kvl l) y.hp (upD l y.hp)).length : Int) ≥ 16)) rfl (fun e12 => ?_) (fun e12 => ?_)
              · skip
                have p12 := of_decide_eq_true e12
                refine A.seq ?_
                refine A.region (A.goAS [.p, .p, .st 3] [(0, (.slice al l.length cl)), (1, (.agg #[(i_ y.hi), (i_ y.hp), (b_ y.hl), (u_ y.ra), (u_ y.rb), (u_ y.rc), (u_ y.la), (u_ y.lb), (u_ y.lc), (u_ y.ua), (u_ y.ub), (u_ y.uc), (i_ y.hk), (i_ y.hq)])), (3, (p_ b1)), (4, (p_ b2)), (5, (i_ (wrongR y))), (10, (b_ ((wrongR y) != 0))), (18, (b_ (decide ((oI (fd y.hi l)) ≥ 0)))), (23, (b_ ((l.length : Int) == 64))), (6, (i_ (i : Int))), (43, (b_ ((y.hp != 0) && ((decide ((i : Int) < 0)) || x.hl)))), (56, (b_ ((decide ((ofR y.la y.lb y.lc) > 1)) && (!(shR l y.hp))))), (64, (b_ (decide (((upL (kvl l) y.hp (upD l y.hp)).length : Int) ≥ 16))))] [sl al'9 ((upL (kvl l) y.hp (upD l y.hp)).length) cl'10 3 1 (V.flat encI (upL (kvl l) y.hp (upD l y.hp))), sl al (l.length) cl 30 14 (V.flat encCl l), blk b1 [(i_ y.hi), (i_ y.hp), (b_ y.hl), (u_ y.ra), (u_ y.rb), (u_ y.rc), (u_ y.la), (u_ y.lb), (u_ y.lc), (u_ y.ua), (u_ y.ub), (u_ y.uc), (i_ y.hk), (i_ y.hq)] 30, blk b2 [(.slice al l.length cl), (i_ 25)] 43] [b2] T0 (by kernel_rfl) trivial ?_)
                refine A.tn ?_
                refine A.ret ?_
                refine A.tr ?_
                have hE_ : addER l y = 25 := by unfold addER; first | (simp_all [fd_ge, fd_neg, gcl]; done) | ((have hi0 : ¬ (i : Int) < 0 := by omega); simp [hi0] at *; simp_all [fd_ge, fd_neg, gcl]; done) | (simp_all [fd_ge, fd_neg, gcl]; omega) | grind [fd_ge, fd_neg, gcl]
                refine A.setH [sl al'9 ((upL (kvl l) y.hp (upD l y.hp)).length) cl'10 3 1 (V.flat encI (upL (kvl l) y.hp (upD l y.hp))), sl al ((addLR l y).length) cl 30 14 (V.flat encCl (addLR l y)), blk b1 [(i_ y.hi), (i_ y.hp), (b_ y.hl), (u_ y.ra), (u_ y.rb), (u_ y.rc), (u_ y.la), (u_ y.lb), (u_ y.lc), (u_ y.ua), (u_ y.ub), (u_ y.uc), (i_ y.hk), (i_ y.hq)] 30, blk b2 [(.slice al l.length cl), (i_ 25)] 43] (cc rfl (cc (slC (by first | rfl | exact (addLR_no (by rw [hE_]; first | decide | assumption)).symm | exact (addLR_ok hE_).symm : l = (addLR l y))) rfl)) ?_
                refine A.postK [1] [(.agg #[(.slice al l.length cl), (i_ 25)])] (fun aa ww rr ss => ⟨rv_cellN (vs := [(.slice al l.length cl), (i_ 25)]) rr ss rfl (by kernel_rfl) (reads_blk (i := 3) rfl rfl), trivial⟩) (al, cl) ?_ ?_ (by kernel_rfl)
                · show ((.agg #[(.slice al l.length cl), (i_ 25)]) : Value) = (.agg #[(.slice al ((addLR l y).length) cl), (i_ (addER l y))])
                  first | (rw [addLR_no (by rw [hE_]; first | decide | assumption), hE_]; done) | (rw [addLR_ok hE_, hE_]; done)
                · trivial
              · skip
                have p12 := of_decide_eq_false e12
                refine A.skip ?_
                refine A.tn ?_
                refine A.seq ?_
                refine A.region (A.goP [.p, .ld 2] [(0, (.slice al l.length cl)), (1, (.agg #[(i_ y.hi), (i_ y.hp), (b_ y.hl), (u_ y.ra), (u_ y.rb), (u_ y.rc), (u_ y.la), (u_ y.lb), (u_ y.lc), (u_ y.ua), (u_ y.ub), (u_ y.uc), (i_ y.hk), (i_ y.hq)])), (3, (p_ b1)), (4, (p_ b2)), (5, (i_ (wrongR y))), (10, (b_ ((wrongR y) != 0))), (18, (b_ (decide ((oI (fd y.hi l)) ≥ 0)))), (23, (b_ ((l.length : Int) == 64))), (6, (i_ (i : Int))), (43, (b_ ((y.hp != 0) && ((decide ((i : Int) < 0)) || x.hl)))), (56, (b_ ((decide ((ofR y.la y.lb y.lc) > 1)) && (!(shR l y.hp))))), (64, (b_ (decide (((upL (kvl l) y.hp (upD l y.hp)).length : Int) ≥ 16)))), (67, (.slice al l.length cl)), (68, (.agg #[(i_ y.hi), (i_ y.hp), (b_ y.hl), (u_ y.ra), (u_ y.rb), (u_ y.rc), (u_ y.la), (u_ y.lb), (u_ y.lc), (u_ y.ua), (u_ y.ub), (u_ y.uc), (i_ y.hk), (i_ y.hq)]))] [b1] T0 (by kernel_rfl) trivial ?_)
                refine A.cons (A.callT (some 69) [(.slice al l.length cl), (.agg #[(i_ y.hi), (i_ y.hp), (b_ y.hl), (u_ y.ra), (u_ y.rb), (u_ y.rc), (u_ y.la), (u_ y.lb), (u_ y.lc), (u_ y.ua), (u_ y.ub), (u_ y.uc), (i_ y.hk), (i_ y.hq)])] [] ((fun zz => match zz with | (al'12, cl'13) => (.slice al'12 ((setL y l).length) cl'13))) ((fun zz => match zz with | (al'12, cl'13) => True)) ((fun zz => match zz with | (al'12, cl'13) => [sl al'12 ((setL y l).length) cl'13 30 14 (V.flat encCl (setL y l))])) (fun zz => match zz with | (al'12, cl'13) => [sl al'12 ((setL y l).length) cl'13 30 14 (V.flat encCl (setL y l)), sl al'9 ((upL (kvl l) y.hp (upD l y.hp)).length) cl'10 3 1 (V.flat encI (upL (kvl l) y.hp (upD l y.hp))), sl al (l.length) cl 30 14 (V.flat encCl l), blk b1 [(i_ y.hi), (i_ y.hp), (b_ y.hl), (u_ y.ra), (u_ y.rb), (u_ y.rc), (u_ y.la), (u_ y.lb), (u_ y.lc), (u_ y.ua), (u_ y.ub), (u_ y.uc), (i_ y.hk), (i_ y.hq)] 30, blk b2 [e_, (i_ 0)] 43]) (by kernel_rfl) rfl rfl (fun ww ss hh => put_spec al l cl y (by first | assumption | omega) ww ((rd_sl (i := 1) rfl) ww ss) hh) (fun _ => rfl) ?_)
                rintro ⟨al'12, cl'13⟩ -
                refine A.goAS [.p, .st 4] [(0, (.slice al l.length cl)), (1, (.agg #[(i_ y.hi), (i_ y.hp), (b_ y.hl), (u_ y.ra), (u_ y.rb), (u_ y.rc), (u_ y.la), (u_ y.lb), (u_ y.lc), (u_ y.ua), (u_ y.ub), (u_ y.uc), (i_ y.hk), (i_ y.hq)])), (3, (p_ b1)), (4, (p_ b2)), (5, (i_ (wrongR y))), (10, (b_ ((wrongR y) != 0))), (18, (b_ (decide ((oI (fd y.hi l)) ≥ 0)))), (23, (b_ ((l.length : Int) == 64))), (6, (i_ (i : Int))), (43, (b_ ((y.hp != 0) && ((decide ((i : Int) < 0)) || x.hl)))), (56, (b_ ((decide ((ofR y.la y.lb y.lc) > 1)) && (!(shR l y.hp))))), (64, (b_ (decide (((upL (kvl l) y.hp (upD l y.hp)).length : Int) ≥ 16))))] [sl al'12 ((setL y l).length) cl'13 30 14 (V.flat encCl (setL y l)), sl al'9 ((upL (kvl l) y.hp (upD l y.hp)).length) cl'10 3 1 (V.flat encI (upL (kvl l) y.hp (upD l y.hp))), sl al (l.length) cl 30 14 (V.flat encCl l), blk b1 [(i_ y.hi), (i_ y.hp), (b_ y.hl), (u_ y.ra), (u_ y.rb), (u_ y.rc), (u_ y.la), (u_ y.lb), (u_ y.lc), (u_ y.ua), (u_ y.ub), (u_ y.uc), (i_ y.hk), (i_ y.hq)] 30, blk b2 [(.slice al'12 ((setL y l).length) cl'13), (i_ 0)] 43] [b2] T0 (by kernel_rfl) trivial ?_
                refine A.tn ?_
                refine A.ret ?_
                have hE_ : addER l y = 0 := by unfold addER; first | (simp_all [fd_ge, fd_neg, gcl]; done) | ((have hi0 : ¬ (i : Int) < 0 := by omega); simp [hi0] at *; simp_all [fd_ge, fd_neg, gcl]; done) | (simp_all [fd_ge, fd_neg, gcl]; omega) | grind [fd_ge, fd_neg, gcl]
                refine A.setH [sl al'12 ((addLR l y).length) cl'13 30 14 (V.flat encCl (addLR l y)), sl al'9 ((upL (kvl l) y.hp (upD l y.hp)).length) cl'10 3 1 (V.flat encI (upL (kvl l) y.hp (upD l y.hp))), sl al (l.length) cl 30 14 (V.flat encCl l), blk b1 [(i_ y.hi), (i_ y.hp), (b_ y.hl), (u_ y.ra), (u_ y.rb), (u_ y.rc), (u_ y.la), (u_ y.lb), (u_ y.lc), (u_ y.ua), (u_ y.ub), (u_ y.uc), (i_ y.hk), (i_ y.hq)] 30, blk b2 [(.slice al'12 ((setL y l).length) cl'13), (i_ 0)] 43] (cc (slC (by first | rfl | exact (addLR_no (by rw [hE_]; first | decide | assumption)).symm | exact (addLR_ok hE_).symm : (setL y l) = (addLR l y))) rfl) ?_
                refine A.postK [0] [(.agg #[(.slice al'12 ((setL y l).length) cl'13), (i_ 0)])] (fun aa ww rr ss => ⟨rv_cellN (vs := [(.slice al'12 ((setL y l).length) cl'13), (i_ 0)]) rr ss rfl (by kernel_rfl) (reads_blk (i := 4) rfl rfl), trivial⟩) (al'12, cl'13) ?_ ?_ (by kernel_rfl)
                · show ((.agg #[(.slice al'12 ((setL y l).length) cl'13), (i_ 0)]) : Value) = (.agg #[(.slice al'12 ((addLR l y).length) cl'13), (i_ (addER l y))])
                  first | (rw [addLR_no (by rw [hE_]; first | decide | assumption), hE_]; done) | (rw [addLR_ok hE_, hE_]; done)
                · trivial

set_option maxHeartbeats 4000000 in
set_option maxRecDepth 100000 in
theorem rdel_spec (al : Option Addr) (l : List Cl) (cl : Nat) (a : Int) (hl : l.length ≤ 100000) (w : World) (hs : HS w (feet [sl al (l.length) cl 30 14 (V.flat encCl l)]) [sl al (l.length) cl 30 14 (V.flat encCl l)] w) :
    Calls Try.prog 26 #[(.slice al l.length cl), (i_ a)] w fun e w' => ∃ zz, e = .returned ((fun (zz : (Option Addr) × Nat) => match zz with | (al', cl') => (.agg #[(.slice al' ((delLR l a).length) cl'), (i_ (delER l a))])) zz) ∧ (fun (zz : (Option Addr) × Nat) => match zz with | (al', cl') => True) zz ∧ Turn [sl al (l.length) cl 30 14 (V.flat encCl l)] ((fun (zz : (Option Addr) × Nat) => match zz with | (al', cl') => [sl al' ((delLR l a).length) cl' 30 14 (V.flat encCl (delLR l a))]) zz) w w' := by
  refine calls_of (args := [(.slice al l.length cl), (i_ a)]) (penv [(.slice al l.length cl), (i_ a)]) (feet [sl al (l.length) cl 30 14 (V.flat encCl l)]) [sl al (l.length) cl 30 14 (V.flat encCl l)] Try.func26 rfl rfl (look_penv _) hs ?_
  refine A.norm [(0, (.slice al l.length cl)), (1, (i_ a))] [sl al (l.length) cl 30 14 (V.flat encCl l)] (by exact ⟨rfl, rfl, trivial⟩) rfl ?_
  refine A.seq ?_
  refine A.region (A.goA1 [.al] [0, 1, 4] (fun b1 => [(0, (.slice al l.length cl)), (1, (i_ a)), (4, (p_ b1))]) (fun b1 => [sl al (l.length) cl 30 14 (V.flat encCl l), blk b1 [e_, (i_ 0)] 43]) (fun b1 => []) (fun _ => T0) (fun _ => by kernel_rfl) (fun b1 => trivial) ?_)
  intro b1
  refine A.tn ?_
  refine A.seq ?_
  refine A.seq ?_
  refine A.region (A.goA [.p, .p, .cq (i_ (oI (fd a l))), .p] [(0, (.slice al l.length cl)), (1, (i_ a)), (4, (p_ b1)), (11, (b_ (decide ((oI (fd a l)) < 0))))] [] (fun κ => κ.call 42 [(.slice al l.length cl), (i_ a)] (i_ (oI (fd a l))) ∧ True) (by kernel_rfl) ⟨(fun ww ss => fd_spec al l cl a (by first | assumption | omega) ww ((rd_sl (i := 0) rfl) ww ss)), trivial⟩ ?_)
  refine A.tn ?_
  refine A.cond (E := decide ((oI (fd a l)) < 0)) rfl (fun e1 => ?_) (fun e1 => ?_)
  · skip
    have p1 := of_decide_eq_true e1
    refine A.seq ?_
    refine A.region (A.goAS [.p, .p, .st 1] [(0, (.slice al l.length cl)), (1, (i_ a)), (4, (p_ b1)), (11, (b_ (decide ((oI (fd a l)) < 0))))] [sl al (l.length) cl 30 14 (V.flat encCl l), blk b1 [(.slice al l.length cl), (i_ 6)] 43] [b1] T0 (by kernel_rfl) trivial ?_)
    refine A.tn ?_
    refine A.ret ?_
    refine A.tr ?_
    have hE_ : delER l a = 6 := by unfold delER; first | (simp_all [fd_ge, fd_neg, gcl]; done) | ((have hi0 : ¬ (i : Int) < 0 := by omega); simp [hi0] at *; simp_all [fd_ge, fd_neg, gcl]; done) | (simp_all [fd_ge, fd_neg, gcl]; omega) | grind [fd_ge, fd_neg, gcl]
    refine A.setH [sl al ((delLR l a).length) cl 30 14 (V.flat encCl (delLR l a)), blk b1 [(.slice al l.length cl), (i_ 6)] 43] (cc (slC (by first | rfl | (rw [take_snoc (by assumption), wo_snoc]; simp_all; done) | (simp [wo]; done) | exact (delLR_no (by rw [hE_]; first | decide | assumption)).symm | (rw [List.take_of_length_le (by omega)]; exact (delLR_ok hE_).symm) | (rw [List.take_of_length_le (by omega)]) : l = (delLR l a))) rfl) ?_
    refine A.postK [0] [(.agg #[(.slice al l.length cl), (i_ 6)])] (fun aa ww rr ss => ⟨rv_cellN (vs := [(.slice al l.length cl), (i_ 6)]) rr ss rfl (by kernel_rfl) (reads_blk (i := 1) rfl rfl), trivial⟩) (al, cl) ?_ ?_ (by kernel_rfl)
    · show ((.agg #[(.slice al l.length cl), (i_ 6)]) : Value) = (.agg #[(.slice al ((delLR l a).length) cl), (i_ (delER l a))])
      first | (rw [delLR_no (by rw [hE_]; first | decide | assumption), hE_]; done) | (rw [delLR_ok hE_, hE_]; done) | (rw [List.take_of_length_le (by omega), delLR_ok hE_, hE_])
    · trivial
  · skip
    have p1 := of_decide_eq_false e1
    refine A.skip ?_
    refine A.tn ?_
    refine A.seq ?_
    refine A.seq ?_
    refine A.region (A.goP [.p, .p] [(0, (.slice al l.length cl)), (1, (i_ a)), (4, (p_ b1)), (11, (b_ (decide ((oI (fd a l)) < 0)))), (14, (.slice al l.length cl)), (15, (i_ a))] [] T0 (by kernel_rfl) trivial ?_)
    refine A.cons (A.callT (some 16) [(.slice al l.length cl), (i_ a)] [] ((fun zz => match zz with | (al'2, cl'3) => (.slice al'2 ((chR l a).length) cl'3))) ((fun zz => match zz with | (al'2, cl'3) => True)) ((fun zz => match zz with | (al'2, cl'3) => [sl al'2 ((chR l a).length) cl'3 3 1 (V.flat encI (chR l a))])) (fun zz => match zz with | (al'2, cl'3) => [sl al'2 ((chR l a).length) cl'3 3 1 (V.flat encI (chR l a)), sl al (l.length) cl 30 14 (V.flat encCl l), blk b1 [e_, (i_ 0)] 43]) (by kernel_rfl) rfl rfl (fun ww ss hh => chR_spec al l cl a (by first | assumption | omega) ww ((rd_sl (i := 0) rfl) ww ss) hh) (fun _ => rfl) ?_)
    rintro ⟨al'2, cl'3⟩ -
    refine A.goA [.p, .p] [(0, (.slice al l.length cl)), (1, (i_ a)), (4, (p_ b1)), (11, (b_ (decide ((oI (fd a l)) < 0)))), (18, (b_ (decide (((chR l a).length : Int) > 0))))] [] T0 (by kernel_rfl) trivial ?_
    refine A.tn ?_
    refine A.cond (E := decide (((chR l a).length : Int) > 0)) rfl (fun e3 => ?_) (fun e3 => ?_)
    · skip
      have p3 := of_decide_eq_true e3
      refine A.seq ?_
      refine A.region (A.goAS [.p, .p, .st 2] [(0, (.slice al l.length cl)), (1, (i_ a)), (4, (p_ b1)), (11, (b_ (decide ((oI (fd a l)) < 0)))), (18, (b_ (decide (((chR l a).length : Int) > 0))))] [sl al'2 ((chR l a).length) cl'3 3 1 (V.flat encI (chR l a)), sl al (l.length) cl 30 14 (V.flat encCl l), blk b1 [(.slice al l.length cl), (i_ 23)] 43] [b1] T0 (by kernel_rfl) trivial ?_)
      refine A.tn ?_
      refine A.ret ?_
      refine A.tr ?_
      have hE_ : delER l a = 23 := by unfold delER; first | (simp_all [fd_ge, fd_neg, gcl]; done) | ((have hi0 : ¬ (i : Int) < 0 := by omega); simp [hi0] at *; simp_all [fd_ge, fd_neg, gcl]; done) | (simp_all [fd_ge, fd_neg, gcl]; omega) | grind [fd_ge, fd_neg, gcl]
      refine A.setH [sl al'2 ((chR l a).length) cl'3 3 1 (V.flat encI (chR l a)), sl al ((delLR l a).length) cl 30 14 (V.flat encCl (delLR l a)), blk b1 [(.slice al l.length cl), (i_ 23)] 43] (cc rfl (cc (slC (by first | rfl | (rw [take_snoc (by assumption), wo_snoc]; simp_all; done) | (simp [wo]; done) | exact (delLR_no (by rw [hE_]; first | decide | assumption)).symm | (rw [List.take_of_length_le (by omega)]; exact (delLR_ok hE_).symm) | (rw [List.take_of_length_le (by omega)]) : l = (delLR l a))) rfl)) ?_
      refine A.postK [1] [(.agg #[(.slice al l.length cl), (i_ 23)])] (fun aa ww rr ss => ⟨rv_cellN (vs := [(.slice al l.length cl), (i_ 23)]) rr ss rfl (by kernel_rfl) (reads_blk (i := 2) rfl rfl), trivial⟩) (al, cl) ?_ ?_ (by kernel_rfl)
      · show ((.agg #[(.slice al l.length cl), (i_ 23)]) : Value) = (.agg #[(.slice al ((delLR l a).length) cl), (i_ (delER l a))])
        first | (rw [delLR_no (by rw [hE_]; first | decide | assumption), hE_]; done) | (rw [delLR_ok hE_, hE_]; done) | (rw [List.take_of_length_le (by omega), delLR_ok hE_, hE_])
      · trivial
    · skip
      have p3 := of_decide_eq_false e3
      refine A.skip ?_
      refine A.tn ?_
      refine A.seq ?_
      refine A.region (A.goA [.p] [(0, (.slice al l.length cl)), (1, (i_ a)), (4, (p_ b1)), (11, (b_ (decide ((oI (fd a l)) < 0)))), (18, (b_ (decide (((chR l a).length : Int) > 0)))), (5, e_)] [] T0 (by kernel_rfl) trivial ?_)
      refine A.tn ?_
      refine A.seq ?_
      refine A.seq ?_
      refine A.region (A.goA [.p, .p, .p] [(0, (.slice al l.length cl)), (1, (i_ a)), (4, (p_ b1)), (11, (b_ (decide ((oI (fd a l)) < 0)))), (18, (b_ (decide (((chR l a).length : Int) > 0)))), (5, e_), (21, (.slice al l.length cl)), (22, (i_ (l.length : Int))), (23, (i_ 0))] [] T0 (by kernel_rfl) trivial ?_)
      refine A.tn ?_
      refine A.block ?_
      refine A.ownNil 30 14 [sl al'2 ((chR l a).length) cl'3 3 1 (V.flat encI (chR l a)), sl al (l.length) cl 30 14 (V.flat encCl l), blk b1 [e_, (i_ 0)] 43, sl none (([] : List Cl).length) 0 30 14 (V.flat encCl ([] : List Cl))] rfl ?_
      refine A.setH [sl al'2 ((chR l a).length) cl'3 3 1 (V.flat encI (chR l a)), sl al (l.length) cl 30 14 (V.flat encCl l), blk b1 [e_, (i_ 0)] 43, sl none ((wo a (l.take 0)).length) 0 30 14 (V.flat encCl (wo a (l.take 0)))] (cc rfl (cc rfl (cc rfl (cc (slC (by first | rfl | (rw [take_snoc (by assumption), wo_snoc]; simp_all; done) | (simp [wo]; done) | exact (delLR_no (by rw [hE_]; first | decide | assumption)).symm | (rw [List.take_of_length_le (by omega)]; exact (delLR_ok hE_).symm) | (rw [List.take_of_length_le (by omega)]) : ([] : List Cl) = (wo a (l.take 0)))) rfl)))) ?_
      refine A.sub [(0, (.slice al l.length cl)), (1, (i_ a)), (4, (p_ b1)), (11, (b_ (decide ((oI (fd a l)) < 0)))), (18, (b_ (decide (((chR l a).length : Int) > 0)))), (5, (.slice none ((wo a (l.take 0)).length) 0)), (21, (.slice al l.length cl)), (22, (i_ (l.length : Int))), (23, (i_ 0))] (by exact ⟨rfl, rfl, rfl, rfl, rfl, (congrArg (fun z_ : List Cl => some (Value.slice none z_.length 0)) (by first | rfl | (rw [take_snoc (by assumption), wo_snoc]; simp_all; done) | (simp [wo]; done) | exact (delLR_no (by rw [hE_]; first | decide | assumption)).symm | (rw [List.take_of_length_le (by omega)]; exact (delLR_ok hE_).symm) | (rw [List.take_of_length_le (by omega)]) : ([] : List Cl) = (wo a (l.take 0)))), rfl, rfl, rfl, trivial⟩) ?_
      refine A.loop (fun (zz : Nat × (Option Addr) × Nat) => match zz with | (k, ao, co) => [(1, (i_ a)), (4, (p_ b1)), (21, (.slice al l.length cl)), (22, (i_ (l.length : Int))), (23, (i_ (k : Int))), (5, (.slice ao ((wo a (l.take k)).length) co))]) (fun (zz : Nat × (Option Addr) × Nat) => match zz with | (k, ao, co) => [sl ao ((wo a (l.take k)).length) co 30 14 (V.flat encCl (wo a (l.take k))), sl al'2 ((chR l a).length) cl'3 3 1 (V.flat encI (chR l a)), sl al (l.length) cl 30 14 (V.flat encCl l), blk b1 [e_, (i_ 0)] 43]) (fun (zz : Nat × (Option Addr) × Nat) => match zz with | (k, ao, co) => (k ≤ l.length)) (fun (zz : Nat × (Option Addr) × Nat) => match zz with | (k, ao, co) => l.length - k) (0, none, 0) (by first | assumption | omega | (simp_all; done) | (simp_all; omega) | grind) ?_ ?_
      · exact A.hereK [3, 0, 0, 0] (by exact ⟨rfl, rfl, rfl, rfl, rfl, rfl, trivial⟩) (by kernel_rfl)
      · rintro ⟨k, ao, co⟩ hk
        have hk : k ≤ l.length := hk
        have hdl : (wo a (l.take k)).length ≤ k := Nat.le_trans (wo_len _ _) (by simp; omega)
        refine A.norm [(1, (i_ a)), (4, (p_ b1)), (21, (.slice al l.length cl)), (22, (i_ (l.length : Int))), (23, (i_ (k : Int))), (5, (.slice ao ((wo a (l.take k)).length) co))] [sl ao ((wo a (l.take k)).length) co 30 14 (V.flat encCl (wo a (l.take k))), sl al'2 ((chR l a).length) cl'3 3 1 (V.flat encI (chR l a)), sl al (l.length) cl 30 14 (V.flat encCl l), blk b1 [e_, (i_ 0)] 43] (by exact ⟨rfl, rfl, rfl, rfl, rfl, rfl, trivial⟩) rfl ?_
        refine A.seq ?_
        refine A.region (A.goA [.p] [(1, (i_ a)), (4, (p_ b1)), (21, (.slice al l.length cl)), (22, (i_ (l.length : Int))), (23, (i_ (k : Int))), (5, (.slice ao ((wo a (l.take k)).length) co)), (24, (b_ (decide ((k : Int) < (l.length : Int)))))] [] T0 (by kernel_rfl) trivial ?_)
        refine A.tn ?_
        refine A.seq ?_
        refine A.cond (E := decide ((k : Int) < (l.length : Int))) rfl (fun e4 => ?_) (fun e4 => ?_)
        · skip
          have p4 := of_decide_eq_true e4
          refine A.skip ?_
          refine A.tn ?_
          refine A.seq ?_
          refine A.block ?_
          refine A.seq ?_
          refine A.region (A.goP [.ix] [(1, (i_ a)), (4, (p_ b1)), (21, (.slice al l.length cl)), (22, (i_ (l.length : Int))), (23, (i_ (k : Int))), (5, (.slice ao ((wo a (l.take k)).length) co)), (24, (b_ (decide ((k : Int) < (l.length : Int))))), (25, (.pointer (some ((at0 al).add (k * 14)))))] [] (fun κ => κ.ix al l.length (k : Int) ∧ True) (by kernel_rfl) ⟨(ixOf encCl_len (by decide) (rd_sl (i := 2) rfl) (by first | omega | (simp; omega) | (simp; done))), trivial⟩ ?_)
          obtain ⟨x6, hx6⟩ : ∃ x, (l)[k]? = some x := ⟨_, List.getElem?_eq_getElem (by omega)⟩
          refine A.goA1 [.rd [(i_ x6.hi), (i_ x6.hp), (b_ x6.hl), (u_ x6.ra), (u_ x6.rb), (u_ x6.rc), (u_ x6.la), (u_ x6.lb), (u_ x6.lc), (u_ x6.ua), (u_ x6.ub), (u_ x6.uc), (i_ x6.hk), (i_ x6.hq)], .al, .st 4] [1, 4, 21, 22, 23, 5, 24, 7] (fun b7 => [(1, (i_ a)), (4, (p_ b1)), (21, (.slice al l.length cl)), (22, (i_ (l.length : Int))), (23, (i_ (k : Int))), (5, (.slice ao ((wo a (l.take k)).length) co)), (24, (b_ (decide ((k : Int) < (l.length : Int))))), (7, (p_ b7))]) (fun b7 => [sl ao ((wo a (l.take k)).length) co 30 14 (V.flat encCl (wo a (l.take k))), sl al'2 ((chR l a).length) cl'3 3 1 (V.flat encI (chR l a)), sl al (l.length) cl 30 14 (V.flat encCl l), blk b1 [e_, (i_ 0)] 43, blk b7 [(i_ x6.hi), (i_ x6.hp), (b_ x6.hl), (u_ x6.ra), (u_ x6.rb), (u_ x6.rc), (u_ x6.la), (u_ x6.lb), (u_ x6.lc), (u_ x6.ua), (u_ x6.ub), (u_ x6.uc), (i_ x6.hk), (i_ x6.hq)] 30]) (fun b7 => [b7]) (fun _ => (fun κ => κ.rd ((at0 al).add (k * 14)) [(i_ x6.hi), (i_ x6.hp), (b_ x6.hl), (u_ x6.ra), (u_ x6.rb), (u_ x6.rc), (u_ x6.la), (u_ x6.lb), (u_ x6.lc), (u_ x6.ua), (u_ x6.ub), (u_ x6.uc), (i_ x6.hk), (i_ x6.hq)] ∧ True)) (fun _ => by kernel_rfl) (fun b7 => ⟨(reads_at0 (vs := [(i_ x6.hi), (i_ x6.hp), (b_ x6.hl), (u_ x6.ra), (u_ x6.rb), (u_ x6.rc), (u_ x6.la), (u_ x6.lb), (u_ x6.lc), (u_ x6.ua), (u_ x6.ub), (u_ x6.uc), (i_ x6.hk), (i_ x6.hq)]) encCl_len (rd_sl (i := 2) rfl) hx6 (by simp) rfl), trivial⟩) ?_
          intro b7
          refine A.tn ?_
          refine A.seq ?_
          refine A.region (A.goA [.p, .ld 4, .p, .p] [(1, (i_ a)), (4, (p_ b1)), (21, (.slice al l.length cl)), (22, (i_ (l.length : Int))), (23, (i_ (k : Int))), (5, (.slice ao ((wo a (l.take k)).length) co)), (24, (b_ (decide ((k : Int) < (l.length : Int))))), (7, (p_ b7)), (30, (b_ (x6.hi != a)))] [b7] T0 (by kernel_rfl) trivial ?_)
          refine A.tn ?_
          refine A.cond (E := x6.hi != a) rfl (fun e5 => ?_) (fun e5 => ?_)
          · skip
            have p5 := e5; try simp only [decide_eq_true_eq, decide_eq_false_iff_not, beq_iff_eq, beq_eq_false_iff_ne, bne_iff_ne, bne_eq_false_iff_eq, ne_eq, Bool.and_eq_true, Bool.or_eq_true, Bool.or_eq_false_iff, Bool.not_eq_true', Bool.not_eq_false', Int.not_lt, Int.not_le, gt_iff_lt, ge_iff_le, Classical.not_not] at p5
            refine A.region (A.goP [.p, .ld 4] [(1, (i_ a)), (4, (p_ b1)), (21, (.slice al l.length cl)), (22, (i_ (l.length : Int))), (23, (i_ (k : Int))), (5, (.slice ao ((wo a (l.take k)).length) co)), (24, (b_ (decide ((k : Int) < (l.length : Int))))), (7, (p_ b7)), (30, (b_ (x6.hi != a))), (31, (.slice ao ((wo a (l.take k)).length) co)), (32, (.agg #[(i_ x6.hi), (i_ x6.hp), (b_ x6.hl), (u_ x6.ra), (u_ x6.rb), (u_ x6.rc), (u_ x6.la), (u_ x6.lb), (u_ x6.lc), (u_ x6.ua), (u_ x6.ub), (u_ x6.uc), (i_ x6.hk), (i_ x6.hq)]))] [b7] T0 (by kernel_rfl) trivial ?_)
            refine A.cons (A.buildSlice 33 (e := 30) [(i_ x6.hi), (i_ x6.hp), (b_ x6.hl), (u_ x6.ra), (u_ x6.rb), (u_ x6.rc), (u_ x6.la), (u_ x6.lb), (u_ x6.lc), (u_ x6.ua), (u_ x6.ub), (u_ x6.uc), (i_ x6.hk), (i_ x6.hq)] (by kernel_rfl) rfl (fun _ => by kernel_rfl) (fun b8 => [sl ao ((wo a (l.take k)).length) co 30 14 (V.flat encCl (wo a (l.take k))), sl al'2 ((chR l a).length) cl'3 3 1 (V.flat encI (chR l a)), sl al (l.length) cl 30 14 (V.flat encCl l), blk b1 [e_, (i_ 0)] 43, blk b7 [(i_ x6.hi), (i_ x6.hp), (b_ x6.hl), (u_ x6.ra), (u_ x6.rb), (u_ x6.rc), (u_ x6.la), (u_ x6.lb), (u_ x6.lc), (u_ x6.ua), (u_ x6.ub), (u_ x6.uc), (i_ x6.hk), (i_ x6.hq)] 30, blk b8 [(i_ x6.hi), (i_ x6.hp), (b_ x6.hl), (u_ x6.ra), (u_ x6.rb), (u_ x6.rc), (u_ x6.la), (u_ x6.lb), (u_ x6.lc), (u_ x6.ua), (u_ x6.ub), (u_ x6.uc), (i_ x6.hk), (i_ x6.hq)] 30]) (fun _ => rfl) ?_)
            intro b8
            refine A.cons (A.appendC (enc := encCl) (xs := (wo a (l.take k))) ([x6]) 0 34 (e := 30) (z := (.agg #[(i_ 0), (i_ 0), (b_ false), (u_ 0), (u_ 0), (u_ 0), (u_ 0), (u_ 0), (u_ 0), (u_ 0), (u_ 0), (u_ 0), (i_ 0), (i_ 0)])) (sz := 14) (by_ := 112) (by kernel_rfl) rfl rfl rfl (by kernel_rfl) (by kernel_rfl) (by rfl) (by decide) encCl_len encCl_one rfl (rd_blk (i := 5) rfl) (by simp; omega) (fun A9 c9 => [sl A9 (((wo a (l.take k)) ++ ([x6])).length) c9 30 14 (V.flat encCl ((wo a (l.take k)) ++ ([x6]))), sl al'2 ((chR l a).length) cl'3 3 1 (V.flat encI (chR l a)), sl al (l.length) cl 30 14 (V.flat encCl l), blk b1 [e_, (i_ 0)] 43, blk b7 [(i_ x6.hi), (i_ x6.hp), (b_ x6.hl), (u_ x6.ra), (u_ x6.rb), (u_ x6.rc), (u_ x6.la), (u_ x6.lb), (u_ x6.lc), (u_ x6.ua), (u_ x6.ub), (u_ x6.uc), (i_ x6.hk), (i_ x6.hq)] 30, blk b8 [(i_ x6.hi), (i_ x6.hp), (b_ x6.hl), (u_ x6.ra), (u_ x6.rb), (u_ x6.rc), (u_ x6.la), (u_ x6.lb), (u_ x6.lc), (u_ x6.ua), (u_ x6.ub), (u_ x6.uc), (i_ x6.hk), (i_ x6.hq)] 30]) (fun _ _ => rfl) ?_)
            intro A9 c9
            refine A.goA [.p] [(1, (i_ a)), (4, (p_ b1)), (21, (.slice al l.length cl)), (22, (i_ (l.length : Int))), (23, (i_ (k : Int))), (5, (.slice A9 (((wo a (l.take k)) ++ ([x6])).length) c9)), (24, (b_ (decide ((k : Int) < (l.length : Int))))), (7, (p_ b7)), (30, (b_ (x6.hi != a)))] [] T0 (by kernel_rfl) trivial ?_
            refine A.bn ?_
            refine A.tn ?_
            refine A.region (A.goA [.w ((k : Int) + 1), .p] [(1, (i_ a)), (4, (p_ b1)), (21, (.slice al l.length cl)), (22, (i_ (l.length : Int))), (23, (i_ ((k : Int) + 1))), (5, (.slice A9 (((wo a (l.take k)) ++ ([x6])).length) c9)), (24, (b_ (decide ((k : Int) < (l.length : Int))))), (7, (p_ b7)), (30, (b_ (x6.hi != a)))] [] (fun κ => (IntKind.i64.wrap ((k : Int) + 1) = ((k : Int) + 1)) ∧ True) (by kernel_rfl) ⟨(wrap_i64 (e := (k : Int) + 1) (by constructor <;> omega)), trivial⟩ ?_)
            refine A.tn ?_
            refine A.setH [sl A9 ((wo a (l.take (k + 1))).length) c9 30 14 (V.flat encCl (wo a (l.take (k + 1)))), sl al'2 ((chR l a).length) cl'3 3 1 (V.flat encI (chR l a)), sl al (l.length) cl 30 14 (V.flat encCl l), blk b1 [e_, (i_ 0)] 43, blk b7 [(i_ x6.hi), (i_ x6.hp), (b_ x6.hl), (u_ x6.ra), (u_ x6.rb), (u_ x6.rc), (u_ x6.la), (u_ x6.lb), (u_ x6.lc), (u_ x6.ua), (u_ x6.ub), (u_ x6.uc), (i_ x6.hk), (i_ x6.hq)] 30, blk b8 [(i_ x6.hi), (i_ x6.hp), (b_ x6.hl), (u_ x6.ra), (u_ x6.rb), (u_ x6.rc), (u_ x6.la), (u_ x6.lb), (u_ x6.lc), (u_ x6.ua), (u_ x6.ub), (u_ x6.uc), (i_ x6.hk), (i_ x6.hq)] 30] (cc (slC (by first | rfl | (rw [take_snoc (by assumption), wo_snoc]; simp_all; done) | (simp [wo]; done) | exact (delLR_no (by rw [hE_]; first | decide | assumption)).symm | (rw [List.take_of_length_le (by omega)]; exact (delLR_ok hE_).symm) | (rw [List.take_of_length_le (by omega)]) : (wo a (l.take k)) ++ ([x6]) = (wo a (l.take (k + 1))))) rfl) ?_
            refine A.sub [(1, (i_ a)), (4, (p_ b1)), (21, (.slice al l.length cl)), (22, (i_ (l.length : Int))), (23, (i_ ((k : Int) + 1))), (5, (.slice A9 ((wo a (l.take (k + 1))).length) c9)), (24, (b_ (decide ((k : Int) < (l.length : Int))))), (7, (p_ b7)), (30, (b_ (x6.hi != a)))] (by exact ⟨rfl, rfl, rfl, rfl, rfl, (congrArg (fun z_ : List Cl => some (Value.slice A9 z_.length c9)) (by first | rfl | (rw [take_snoc (by assumption), wo_snoc]; simp_all; done) | (simp [wo]; done) | exact (delLR_no (by rw [hE_]; first | decide | assumption)).symm | (rw [List.take_of_length_le (by omega)]; exact (delLR_ok hE_).symm) | (rw [List.take_of_length_le (by omega)]) : (wo a (l.take k)) ++ ([x6]) = (wo a (l.take (k + 1))))), rfl, rfl, rfl, trivial⟩) ?_
            refine A.next (k + 1, A9, c9) (by first | assumption | omega | (simp_all; done) | (simp_all; omega) | grind) (by first | omega | (simp; omega) | (simp_all; omega)) ?_
            exact A.hereK [0, 0, 0, 0] (by exact ⟨rfl, rfl, rfl, rfl, rfl, rfl, trivial⟩) (by kernel_rfl)
          · skip
            have p5 := e5; try simp only [decide_eq_true_eq, decide_eq_false_iff_not, beq_iff_eq, beq_eq_false_iff_ne, bne_iff_ne, bne_eq_false_iff_eq, ne_eq, Bool.and_eq_true, Bool.or_eq_true, Bool.or_eq_false_iff, Bool.not_eq_true', Bool.not_eq_false', Int.not_lt, Int.not_le, gt_iff_lt, ge_iff_le, Classical.not_not] at p5
            refine A.skip ?_
            refine A.bn ?_
            refine A.tn ?_
            refine A.region (A.goA [.w ((k : Int) + 1), .p] [(1, (i_ a)), (4, (p_ b1)), (21, (.slice al l.length cl)), (22, (i_ (l.length : Int))), (23, (i_ ((k : Int) + 1))), (5, (.slice ao ((wo a (l.take k)).length) co)), (24, (b_ (decide ((k : Int) < (l.length : Int))))), (7, (p_ b7)), (30, (b_ (x6.hi != a)))] [] (fun κ => (IntKind.i64.wrap ((k : Int) + 1) = ((k : Int) + 1)) ∧ True) (by kernel_rfl) ⟨(wrap_i64 (e := (k : Int) + 1) (by constructor <;> omega)), trivial⟩ ?_)
            refine A.tn ?_
            refine A.setH [sl ao ((wo a (l.take (k + 1))).length) co 30 14 (V.flat encCl (wo a (l.take (k + 1)))), sl al'2 ((chR l a).length) cl'3 3 1 (V.flat encI (chR l a)), sl al (l.length) cl 30 14 (V.flat encCl l), blk b1 [e_, (i_ 0)] 43, blk b7 [(i_ x6.hi), (i_ x6.hp), (b_ x6.hl), (u_ x6.ra), (u_ x6.rb), (u_ x6.rc), (u_ x6.la), (u_ x6.lb), (u_ x6.lc), (u_ x6.ua), (u_ x6.ub), (u_ x6.uc), (i_ x6.hk), (i_ x6.hq)] 30] (cc (slC (by first | rfl | (rw [take_snoc (by assumption), wo_snoc]; simp_all; done) | (simp [wo]; done) | exact (delLR_no (by rw [hE_]; first | decide | assumption)).symm | (rw [List.take_of_length_le (by omega)]; exact (delLR_ok hE_).symm) | (rw [List.take_of_length_le (by omega)]) : (wo a (l.take k)) = (wo a (l.take (k + 1))))) rfl) ?_
            refine A.sub [(1, (i_ a)), (4, (p_ b1)), (21, (.slice al l.length cl)), (22, (i_ (l.length : Int))), (23, (i_ ((k : Int) + 1))), (5, (.slice ao ((wo a (l.take (k + 1))).length) co)), (24, (b_ (decide ((k : Int) < (l.length : Int))))), (7, (p_ b7)), (30, (b_ (x6.hi != a)))] (by exact ⟨rfl, rfl, rfl, rfl, rfl, (congrArg (fun z_ : List Cl => some (Value.slice ao z_.length co)) (by first | rfl | (rw [take_snoc (by assumption), wo_snoc]; simp_all; done) | (simp [wo]; done) | exact (delLR_no (by rw [hE_]; first | decide | assumption)).symm | (rw [List.take_of_length_le (by omega)]; exact (delLR_ok hE_).symm) | (rw [List.take_of_length_le (by omega)]) : (wo a (l.take k)) = (wo a (l.take (k + 1))))), rfl, rfl, rfl, trivial⟩) ?_
            refine A.next (k + 1, ao, co) (by first | assumption | omega | (simp_all; done) | (simp_all; omega) | grind) (by first | omega | (simp; omega) | (simp_all; omega)) ?_
            exact A.hereK [0, 0, 0, 0] (by exact ⟨rfl, rfl, rfl, rfl, rfl, rfl, trivial⟩) (by kernel_rfl)
        · skip
          have p4 := of_decide_eq_false e4
          refine A.exit ?_
          refine A.te ?_
          refine A.te ?_
          refine A.bh ?_
          refine A.tn ?_
          refine A.seq ?_
          refine A.region (A.goAS [.p, .p, .st 3] [(1, (i_ a)), (4, (p_ b1)), (21, (.slice al l.length cl)), (22, (i_ (l.length : Int))), (23, (i_ (k : Int))), (5, (.slice ao ((wo a (l.take k)).length) co)), (24, (b_ (decide ((k : Int) < (l.length : Int)))))] [sl ao ((wo a (l.take k)).length) co 30 14 (V.flat encCl (wo a (l.take k))), sl al'2 ((chR l a).length) cl'3 3 1 (V.flat encI (chR l a)), sl al (l.length) cl 30 14 (V.flat encCl l), blk b1 [(.slice ao ((wo a (l.take k)).length) co), (i_ 0)] 43] [b1] T0 (by kernel_rfl) trivial ?_)
          refine A.tn ?_
          refine A.ret ?_
          have hE_ : delER l a = 0 := by unfold delER; first | (simp_all [fd_ge, fd_neg, gcl]; done) | ((have hi0 : ¬ (i : Int) < 0 := by omega); simp [hi0] at *; simp_all [fd_ge, fd_neg, gcl]; done) | (simp_all [fd_ge, fd_neg, gcl]; omega) | grind [fd_ge, fd_neg, gcl]
          refine A.setH [sl ao ((delLR l a).length) co 30 14 (V.flat encCl (delLR l a)), sl al'2 ((chR l a).length) cl'3 3 1 (V.flat encI (chR l a)), sl al (l.length) cl 30 14 (V.flat encCl l), blk b1 [(.slice ao ((wo a (l.take k)).length) co), (i_ 0)] 43] (cc (slC (by first | rfl | (rw [take_snoc (by assumption), wo_snoc]; simp_all; done) | (simp [wo]; done) | exact (delLR_no (by rw [hE_]; first | decide | assumption)).symm | (rw [List.take_of_length_le (by omega)]; exact (delLR_ok hE_).symm) | (rw [List.take_of_length_le (by omega)]) : (wo a (l.take k)) = (delLR l a))) rfl) ?_
          refine A.postK [0] [(.agg #[(.slice ao ((wo a (l.take k)).length) co), (i_ 0)])] (fun aa ww rr ss => ⟨rv_cellN (vs := [(.slice ao ((wo a (l.take k)).length) co), (i_ 0)]) rr ss rfl (by kernel_rfl) (reads_blk (i := 3) rfl rfl), trivial⟩) (ao, co) ?_ ?_ (by kernel_rfl)
          · show ((.agg #[(.slice ao ((wo a (l.take k)).length) co), (i_ 0)]) : Value) = (.agg #[(.slice ao ((delLR l a).length) co), (i_ (delER l a))])
            first | (rw [delLR_no (by rw [hE_]; first | decide | assumption), hE_]; done) | (rw [delLR_ok hE_, hE_]; done) | (rw [List.take_of_length_le (by omega), delLR_ok hE_, hE_])
          · trivial

set_option maxHeartbeats 4000000 in
set_option maxRecDepth 100000 in
theorem rset_spec (al : Option Addr) (l : List Cl) (cl : Nat) (y : Cl) (hl : l.length ≤ 100000) (w : World) (hs : HS w (feet [sl al (l.length) cl 30 14 (V.flat encCl l)]) [sl al (l.length) cl 30 14 (V.flat encCl l)] w) :
    Calls Try.prog 27 #[(.slice al l.length cl), (.agg #[(i_ y.hi), (i_ y.hp), (b_ y.hl), (u_ y.ra), (u_ y.rb), (u_ y.rc), (u_ y.la), (u_ y.lb), (u_ y.lc), (u_ y.ua), (u_ y.ub), (u_ y.uc), (i_ y.hk), (i_ y.hq)])] w fun e w' => ∃ zz, e = .returned ((fun (zz : (Option Addr) × Nat) => match zz with | (al', cl') => (.agg #[(.slice al' ((setLR l y).length) cl'), (i_ (setER l y))])) zz) ∧ (fun (zz : (Option Addr) × Nat) => match zz with | (al', cl') => True) zz ∧ Turn [sl al (l.length) cl 30 14 (V.flat encCl l)] ((fun (zz : (Option Addr) × Nat) => match zz with | (al', cl') => [sl al' ((setLR l y).length) cl' 30 14 (V.flat encCl (setLR l y))]) zz) w w' := by
  refine calls_of (args := [(.slice al l.length cl), (.agg #[(i_ y.hi), (i_ y.hp), (b_ y.hl), (u_ y.ra), (u_ y.rb), (u_ y.rc), (u_ y.la), (u_ y.lb), (u_ y.lc), (u_ y.ua), (u_ y.ub), (u_ y.uc), (i_ y.hk), (i_ y.hq)])]) (penv [(.slice al l.length cl), (.agg #[(i_ y.hi), (i_ y.hp), (b_ y.hl), (u_ y.ra), (u_ y.rb), (u_ y.rc), (u_ y.la), (u_ y.lb), (u_ y.lc), (u_ y.ua), (u_ y.ub), (u_ y.uc), (i_ y.hk), (i_ y.hq)])]) (feet [sl al (l.length) cl 30 14 (V.flat encCl l)]) [sl al (l.length) cl 30 14 (V.flat encCl l)] Try.func27 rfl rfl (look_penv _) hs ?_
  refine A.norm [(0, (.slice al l.length cl)), (1, (.agg #[(i_ y.hi), (i_ y.hp), (b_ y.hl), (u_ y.ra), (u_ y.rb), (u_ y.rc), (u_ y.la), (u_ y.lb), (u_ y.lc), (u_ y.ua), (u_ y.ub), (u_ y.uc), (i_ y.hk), (i_ y.hq)]))] [sl al (l.length) cl 30 14 (V.flat encCl l)] (by exact ⟨rfl, rfl, trivial⟩) rfl ?_
  refine A.seq ?_
  refine A.region (A.goA2 [.al, .al] [0, 1, 3, 4] (fun b1 b2 => [(0, (.slice al l.length cl)), (1, (.agg #[(i_ y.hi), (i_ y.hp), (b_ y.hl), (u_ y.ra), (u_ y.rb), (u_ y.rc), (u_ y.la), (u_ y.lb), (u_ y.lc), (u_ y.ua), (u_ y.ub), (u_ y.uc), (i_ y.hk), (i_ y.hq)])), (3, (p_ b1)), (4, (p_ b2))]) (fun b1 b2 => [sl al (l.length) cl 30 14 (V.flat encCl l), blk b1 [(i_ y.hi), (i_ y.hp), (b_ y.hl), (u_ y.ra), (u_ y.rb), (u_ y.rc), (u_ y.la), (u_ y.lb), (u_ y.lc), (u_ y.ua), (u_ y.ub), (u_ y.uc), (i_ y.hk), (i_ y.hq)] 30, blk b2 [e_, (i_ 0)] 43]) (fun b1 b2 => []) (fun _ _ => T0) (fun _ _ => by kernel_rfl) (fun b1 b2 => trivial) ?_)
  intro b1 b2
  refine A.tn ?_
  refine A.seq ?_
  refine A.seq ?_
  refine A.region (A.goA [.ld 1, .cq (i_ (wrongR y)), .p] [(0, (.slice al l.length cl)), (1, (.agg #[(i_ y.hi), (i_ y.hp), (b_ y.hl), (u_ y.ra), (u_ y.rb), (u_ y.rc), (u_ y.la), (u_ y.lb), (u_ y.lc), (u_ y.ua), (u_ y.ub), (u_ y.uc), (i_ y.hk), (i_ y.hq)])), (3, (p_ b1)), (4, (p_ b2)), (5, (i_ (wrongR y)))] [b1] (fun κ => κ.call 41 [(.agg #[(i_ y.hi), (i_ y.hp), (b_ y.hl), (u_ y.ra), (u_ y.rb), (u_ y.rc), (u_ y.la), (u_ y.lb), (u_ y.lc), (u_ y.ua), (u_ y.ub), (u_ y.uc), (i_ y.hk), (i_ y.hq)])] (i_ (wrongR y)) ∧ True) (by kernel_rfl) ⟨(fun ww ss => rwrong_spec y ww), trivial⟩ ?_)
  refine A.tn ?_
  refine A.seq ?_
  refine A.region (A.goA [.p, .p] [(0, (.slice al l.length cl)), (1, (.agg #[(i_ y.hi), (i_ y.hp), (b_ y.hl), (u_ y.ra), (u_ y.rb), (u_ y.rc), (u_ y.la), (u_ y.lb), (u_ y.lc), (u_ y.ua), (u_ y.ub), (u_ y.uc), (i_ y.hk), (i_ y.hq)])), (3, (p_ b1)), (4, (p_ b2)), (5, (i_ (wrongR y))), (13, (b_ ((wrongR y) != 0)))] [] T0 (by kernel_rfl) trivial ?_)
  refine A.tn ?_
  refine A.cond (E := (wrongR y) != 0) rfl (fun e1 => ?_) (fun e1 => ?_)
  · skip
    have p1 := e1; try simp only [decide_eq_true_eq, decide_eq_false_iff_not, beq_iff_eq, beq_eq_false_iff_ne, bne_iff_ne, bne_eq_false_iff_eq, ne_eq, Bool.and_eq_true, Bool.or_eq_true, Bool.or_eq_false_iff, Bool.not_eq_true', Bool.not_eq_false', Int.not_lt, Int.not_le, gt_iff_lt, ge_iff_le, Classical.not_not] at p1
    refine A.seq ?_
    refine A.region (A.goAS [.p, .p, .p, .st 2] [(0, (.slice al l.length cl)), (1, (.agg #[(i_ y.hi), (i_ y.hp), (b_ y.hl), (u_ y.ra), (u_ y.rb), (u_ y.rc), (u_ y.la), (u_ y.lb), (u_ y.lc), (u_ y.ua), (u_ y.ub), (u_ y.uc), (i_ y.hk), (i_ y.hq)])), (3, (p_ b1)), (4, (p_ b2)), (5, (i_ (wrongR y))), (13, (b_ ((wrongR y) != 0)))] [sl al (l.length) cl 30 14 (V.flat encCl l), blk b1 [(i_ y.hi), (i_ y.hp), (b_ y.hl), (u_ y.ra), (u_ y.rb), (u_ y.rc), (u_ y.la), (u_ y.lb), (u_ y.lc), (u_ y.ua), (u_ y.ub), (u_ y.uc), (i_ y.hk), (i_ y.hq)] 30, blk b2 [(.slice al l.length cl), (i_ (wrongR y))] 43] [b2] T0 (by kernel_rfl) trivial ?_)
    refine A.tn ?_
    refine A.ret ?_
    refine A.tr ?_
    have hE_ : setER l y = (wrongR y) := by unfold setER; first | (simp_all [fd_ge, fd_neg, gcl]; done) | ((have hq_ := anyI_t (f := shB l y) (by assumption) (by unfold shB; assumption)); simp only [hq_]; first | (simp_all [gcl]; done) | grind [gcl]) | ((have hq_ := anyI_f hn (by omega)); simp only [hq_]; first | (simp_all [gcl]; done) | grind [gcl]) | grind [fd_ge, fd_neg, gcl]
    refine A.setH [sl al ((setLR l y).length) cl 30 14 (V.flat encCl (setLR l y)), blk b1 [(i_ y.hi), (i_ y.hp), (b_ y.hl), (u_ y.ra), (u_ y.rb), (u_ y.rc), (u_ y.la), (u_ y.lb), (u_ y.lc), (u_ y.ua), (u_ y.ub), (u_ y.uc), (i_ y.hk), (i_ y.hq)] 30, blk b2 [(.slice al l.length cl), (i_ (wrongR y))] 43] (cc (slC (by first | rfl | exact (setLR_no (by rw [hE_]; first | decide | assumption)).symm | exact (setLR_ok hE_).symm : l = (setLR l y))) rfl) ?_
    refine A.postK [0] [(.agg #[(.slice al l.length cl), (i_ (wrongR y))])] (fun aa ww rr ss => ⟨rv_cellN (vs := [(.slice al l.length cl), (i_ (wrongR y))]) rr ss rfl (by kernel_rfl) (reads_blk (i := 2) rfl rfl), trivial⟩) (al, cl) ?_ ?_ (by kernel_rfl)
    · show ((.agg #[(.slice al l.length cl), (i_ (wrongR y))]) : Value) = (.agg #[(.slice al ((setLR l y).length) cl), (i_ (setER l y))])
      first | (rw [setLR_no (by rw [hE_]; first | decide | assumption), hE_]; done) | (rw [setLR_ok hE_, hE_]; done)
    · trivial
  · skip
    have p1 := e1; try simp only [decide_eq_true_eq, decide_eq_false_iff_not, beq_iff_eq, beq_eq_false_iff_ne, bne_iff_ne, bne_eq_false_iff_eq, ne_eq, Bool.and_eq_true, Bool.or_eq_true, Bool.or_eq_false_iff, Bool.not_eq_true', Bool.not_eq_false', Int.not_lt, Int.not_le, gt_iff_lt, ge_iff_le, Classical.not_not] at p1
    refine A.skip ?_
    refine A.tn ?_
    refine A.seq ?_
    refine A.region (A.goA [.p, .p, .ld 1, .cq (i_ (oI (fd y.hi l))), .p] [(0, (.slice al l.length cl)), (1, (.agg #[(i_ y.hi), (i_ y.hp), (b_ y.hl), (u_ y.ra), (u_ y.rb), (u_ y.rc), (u_ y.la), (u_ y.lb), (u_ y.lc), (u_ y.ua), (u_ y.ub), (u_ y.uc), (i_ y.hk), (i_ y.hq)])), (3, (p_ b1)), (4, (p_ b2)), (5, (i_ (wrongR y))), (13, (b_ ((wrongR y) != 0))), (6, (i_ (oI (fd y.hi l))))] [b1] (fun κ => κ.call 42 [(.slice al l.length cl), (i_ y.hi)] (i_ (oI (fd y.hi l))) ∧ True) (by kernel_rfl) ⟨(fun ww ss => fd_spec al l cl y.hi (by first | assumption | omega) ww ((rd_sl (i := 0) rfl) ww ss)), trivial⟩ ?_)
    refine A.tn ?_
    refine A.seq ?_
    refine A.seq ?_
    by_cases ho : fd y.hi l = none
    · skip
      have hm := fd_no ho
      refine A.sub [(0, (.slice al l.length cl)), (1, (.agg #[(i_ y.hi), (i_ y.hp), (b_ y.hl), (u_ y.ra), (u_ y.rb), (u_ y.rc), (u_ y.la), (u_ y.lb), (u_ y.lc), (u_ y.ua), (u_ y.ub), (u_ y.uc), (i_ y.hk), (i_ y.hq)])), (3, (p_ b1)), (4, (p_ b2)), (5, (i_ (wrongR y))), (13, (b_ ((wrongR y) != 0))), (6, (i_ (-1)))] (by exact ⟨rfl, rfl, rfl, rfl, rfl, rfl, (congrArg (fun z_ => some (i_ z_)) (by rw [ho]; rfl : (oI (fd y.hi l)) = -1)), trivial⟩) ?_
      refine A.region (A.goA [.p, .p] [(0, (.slice al l.length cl)), (1, (.agg #[(i_ y.hi), (i_ y.hp), (b_ y.hl), (u_ y.ra), (u_ y.rb), (u_ y.rc), (u_ y.la), (u_ y.lb), (u_ y.lc), (u_ y.ua), (u_ y.ub), (u_ y.uc), (i_ y.hk), (i_ y.hq)])), (3, (p_ b1)), (4, (p_ b2)), (5, (i_ (wrongR y))), (13, (b_ ((wrongR y) != 0))), (6, (i_ (-1))), (22, (b_ true))] [] T0 (by kernel_rfl) trivial ?_)
      refine A.tn ?_
      refine A.cond_t rfl ?_
      refine A.seq ?_
      refine A.region (A.goAS [.p, .p, .st 2] [(0, (.slice al l.length cl)), (1, (.agg #[(i_ y.hi), (i_ y.hp), (b_ y.hl), (u_ y.ra), (u_ y.rb), (u_ y.rc), (u_ y.la), (u_ y.lb), (u_ y.lc), (u_ y.ua), (u_ y.ub), (u_ y.uc), (i_ y.hk), (i_ y.hq)])), (3, (p_ b1)), (4, (p_ b2)), (5, (i_ (wrongR y))), (13, (b_ ((wrongR y) != 0))), (6, (i_ (-1))), (22, (b_ true))] [sl al (l.length) cl 30 14 (V.flat encCl l), blk b1 [(i_ y.hi), (i_ y.hp), (b_ y.hl), (u_ y.ra), (u_ y.rb), (u_ y.rc), (u_ y.la), (u_ y.lb), (u_ y.lc), (u_ y.ua), (u_ y.ub), (u_ y.uc), (i_ y.hk), (i_ y.hq)] 30, blk b2 [(.slice al l.length cl), (i_ 6)] 43] [b2] T0 (by kernel_rfl) trivial ?_)
      refine A.tn ?_
      refine A.ret ?_
      refine A.tr ?_
      have hE_ : setER l y = 6 := by unfold setER; first | (simp_all [fd_ge, fd_neg, gcl]; done) | ((have hq_ := anyI_t (f := shB l y) (by assumption) (by unfold shB; assumption)); simp only [hq_]; first | (simp_all [gcl]; done) | grind [gcl]) | ((have hq_ := anyI_f hn (by omega)); simp only [hq_]; first | (simp_all [gcl]; done) | grind [gcl]) | grind [fd_ge, fd_neg, gcl]
      refine A.setH [sl al ((setLR l y).length) cl 30 14 (V.flat encCl (setLR l y)), blk b1 [(i_ y.hi), (i_ y.hp), (b_ y.hl), (u_ y.ra), (u_ y.rb), (u_ y.rc), (u_ y.la), (u_ y.lb), (u_ y.lc), (u_ y.ua), (u_ y.ub), (u_ y.uc), (i_ y.hk), (i_ y.hq)] 30, blk b2 [(.slice al l.length cl), (i_ 6)] 43] (cc (slC (by first | rfl | exact (setLR_no (by rw [hE_]; first | decide | assumption)).symm | exact (setLR_ok hE_).symm : l = (setLR l y))) rfl) ?_
      refine A.postK [0] [(.agg #[(.slice al l.length cl), (i_ 6)])] (fun aa ww rr ss => ⟨rv_cellN (vs := [(.slice al l.length cl), (i_ 6)]) rr ss rfl (by kernel_rfl) (reads_blk (i := 2) rfl rfl), trivial⟩) (al, cl) ?_ ?_ (by kernel_rfl)
      · show ((.agg #[(.slice al l.length cl), (i_ 6)]) : Value) = (.agg #[(.slice al ((setLR l y).length) cl), (i_ (setER l y))])
        first | (rw [setLR_no (by rw [hE_]; first | decide | assumption), hE_]; done) | (rw [setLR_ok hE_, hE_]; done)
      · trivial
    · skip
      obtain ⟨i, hi⟩ := Option.ne_none_iff_exists'.1 ho; obtain ⟨x, hx, hm⟩ := fd_yes hi; have hlt := (List.getElem?_eq_some_iff.1 hx).1
      refine A.sub [(0, (.slice al l.length cl)), (1, (.agg #[(i_ y.hi), (i_ y.hp), (b_ y.hl), (u_ y.ra), (u_ y.rb), (u_ y.rc), (u_ y.la), (u_ y.lb), (u_ y.lc), (u_ y.ua), (u_ y.ub), (u_ y.uc), (i_ y.hk), (i_ y.hq)])), (3, (p_ b1)), (4, (p_ b2)), (5, (i_ (wrongR y))), (13, (b_ ((wrongR y) != 0))), (6, (i_ (i : Int)))] (by exact ⟨rfl, rfl, rfl, rfl, rfl, rfl, (congrArg (fun z_ => some (i_ z_)) (by rw [hi]; rfl : (oI (fd y.hi l)) = (i : Int))), trivial⟩) ?_
      refine A.region (A.goA [.p, .p] [(0, (.slice al l.length cl)), (1, (.agg #[(i_ y.hi), (i_ y.hp), (b_ y.hl), (u_ y.ra), (u_ y.rb), (u_ y.rc), (u_ y.la), (u_ y.lb), (u_ y.lc), (u_ y.ua), (u_ y.ub), (u_ y.uc), (i_ y.hk), (i_ y.hq)])), (3, (p_ b1)), (4, (p_ b2)), (5, (i_ (wrongR y))), (13, (b_ ((wrongR y) != 0))), (6, (i_ (i : Int))), (22, (b_ (decide ((i : Int) < 0))))] [] T0 (by kernel_rfl) trivial ?_)
      refine A.tn ?_
      refine A.cond (E := decide ((i : Int) < 0)) rfl (fun e2 => ?_) (fun e2 => ?_)
      · exact absurd e2 (by simp)
      · skip
        have p2 := of_decide_eq_false e2
        refine A.skip ?_
        refine A.tn ?_
        refine A.seq ?_
        refine A.seq ?_
        refine A.drawA [.p, .p, .ix, .p, .rd [(i_ x.hp)], .p, .ld 1, .p, .p, .o, .p, .p, .ix, .p, .rd [(b_ x.hl)], .p, .ld 1, .eq, .cl] [0, 1, 2, 3, 4, 5, 6, 7, 8, 9, 10, 11, 12, 13, 14, 15, 16, 17] [(0, (.slice al l.length cl)), (1, (.agg #[(i_ y.hi), (i_ y.hp), (b_ y.hl), (u_ y.ra), (u_ y.rb), (u_ y.rc), (u_ y.la), (u_ y.lb), (u_ y.lc), (u_ y.ua), (u_ y.ub), (u_ y.uc), (i_ y.hk), (i_ y.hq)])), (3, (p_ b1)), (4, (p_ b2)), (5, (i_ (wrongR y))), (13, (b_ ((wrongR y) != 0))), (6, (i_ (i : Int))), (22, (b_ (decide ((i : Int) < 0)))), (42, (b_ ((x.hp != y.hp) || (!(x.hl == y.hl)))))] [b1, b1] (fun κ => κ.ix al l.length (i : Int) ∧ κ.rd (((at0 al).add (i * 14)).add 1) [(i_ x.hp)] ∧ ((true && ((x.hp != y.hp) == false)) = true → κ.ix al l.length (i : Int)) ∧ ((true && ((x.hp != y.hp) == false)) = true → κ.rd (((at0 al).add (i * 14)).add 2) [(b_ x.hl)]) ∧ True) (by kernel_rfl) (by kernel_rfl) ⟨(ixOf encCl_len (by decide) (rd_sl (i := 0) rfl) (by first | omega | (simp; omega) | (simp; done))), (reads_at2 (f := 1) (vs := [(i_ x.hp)]) encCl_len (rd_sl (i := 0) rfl) hx (by simp) rfl), (fun h_ => (ixOf encCl_len (by decide) (rd_sl (i := 0) rfl) (by first | omega | (simp; omega) | (simp; done)))), (fun h_ => (reads_at2 (f := 2) (vs := [(b_ x.hl)]) encCl_len (rd_sl (i := 0) rfl) hx (by simp) rfl)), trivial⟩ ?_
        refine A.tn ?_
        refine A.cond (E := (x.hp != y.hp) || (!(x.hl == y.hl))) rfl (fun e3 => ?_) (fun e3 => ?_)
        · skip
          have p3 := e3; try simp only [decide_eq_true_eq, decide_eq_false_iff_not, beq_iff_eq, beq_eq_false_iff_ne, bne_iff_ne, bne_eq_false_iff_eq, ne_eq, Bool.and_eq_true, Bool.or_eq_true, Bool.or_eq_false_iff, Bool.not_eq_true', Bool.not_eq_false', Int.not_lt, Int.not_le, gt_iff_lt, ge_iff_le, Classical.not_not] at p3
          refine A.seq ?_
          refine A.region (A.goAS [.p, .p, .st 2] [(0, (.slice al l.length cl)), (1, (.agg #[(i_ y.hi), (i_ y.hp), (b_ y.hl), (u_ y.ra), (u_ y.rb), (u_ y.rc), (u_ y.la), (u_ y.lb), (u_ y.lc), (u_ y.ua), (u_ y.ub), (u_ y.uc), (i_ y.hk), (i_ y.hq)])), (3, (p_ b1)), (4, (p_ b2)), (5, (i_ (wrongR y))), (13, (b_ ((wrongR y) != 0))), (6, (i_ (i : Int))), (22, (b_ (decide ((i : Int) < 0)))), (42, (b_ ((x.hp != y.hp) || (!(x.hl == y.hl)))))] [sl al (l.length) cl 30 14 (V.flat encCl l), blk b1 [(i_ y.hi), (i_ y.hp), (b_ y.hl), (u_ y.ra), (u_ y.rb), (u_ y.rc), (u_ y.la), (u_ y.lb), (u_ y.lc), (u_ y.ua), (u_ y.ub), (u_ y.uc), (i_ y.hk), (i_ y.hq)] 30, blk b2 [(.slice al l.length cl), (i_ 1)] 43] [b2] T0 (by kernel_rfl) trivial ?_)
          refine A.tn ?_
          refine A.ret ?_
          refine A.tr ?_
          have hE_ : setER l y = 1 := by unfold setER; first | (simp_all [fd_ge, fd_neg, gcl]; done) | ((have hq_ := anyI_t (f := shB l y) (by assumption) (by unfold shB; assumption)); simp only [hq_]; first | (simp_all [gcl]; done) | grind [gcl]) | ((have hq_ := anyI_f hn (by omega)); simp only [hq_]; first | (simp_all [gcl]; done) | grind [gcl]) | grind [fd_ge, fd_neg, gcl]
          refine A.setH [sl al ((setLR l y).length) cl 30 14 (V.flat encCl (setLR l y)), blk b1 [(i_ y.hi), (i_ y.hp), (b_ y.hl), (u_ y.ra), (u_ y.rb), (u_ y.rc), (u_ y.la), (u_ y.lb), (u_ y.lc), (u_ y.ua), (u_ y.ub), (u_ y.uc), (i_ y.hk), (i_ y.hq)] 30, blk b2 [(.slice al l.length cl), (i_ 1)] 43] (cc (slC (by first | rfl | exact (setLR_no (by rw [hE_]; first | decide | assumption)).symm | exact (setLR_ok hE_).symm : l = (setLR l y))) rfl) ?_
          refine A.postK [0] [(.agg #[(.slice al l.length cl), (i_ 1)])] (fun aa ww rr ss => ⟨rv_cellN (vs := [(.slice al l.length cl), (i_ 1)]) rr ss rfl (by kernel_rfl) (reads_blk (i := 2) rfl rfl), trivial⟩) (al, cl) ?_ ?_ (by kernel_rfl)
          · show ((.agg #[(.slice al l.length cl), (i_ 1)]) : Value) = (.agg #[(.slice al ((setLR l y).length) cl), (i_ (setER l y))])
            first | (rw [setLR_no (by rw [hE_]; first | decide | assumption), hE_]; done) | (rw [setLR_ok hE_, hE_]; done)
          · trivial
        · skip
          have p3 := e3; try simp only [decide_eq_true_eq, decide_eq_false_iff_not, beq_iff_eq, beq_eq_false_iff_ne, bne_iff_ne, bne_eq_false_iff_eq, ne_eq, Bool.and_eq_true, Bool.or_eq_true, Bool.or_eq_false_iff, Bool.not_eq_true', Bool.not_eq_false', Int.not_lt, Int.not_le, gt_iff_lt, ge_iff_le, Classical.not_not] at p3
          refine A.skip ?_
          refine A.tn ?_
          refine A.seq ?_
          refine A.region (A.goA [.p, .ld 1, .cq (i_ (ofR y.la y.lb y.lc)), .p, .p] [(0, (.slice al l.length cl)), (1, (.agg #[(i_ y.hi), (i_ y.hp), (b_ y.hl), (u_ y.ra), (u_ y.rb), (u_ y.rc), (u_ y.la), (u_ y.lb), (u_ y.lc), (u_ y.ua), (u_ y.ub), (u_ y.uc), (i_ y.hk), (i_ y.hq)])), (3, (p_ b1)), (4, (p_ b2)), (5, (i_ (wrongR y))), (13, (b_ ((wrongR y) != 0))), (6, (i_ (i : Int))), (22, (b_ (decide ((i : Int) < 0)))), (42, (b_ ((x.hp != y.hp) || (!(x.hl == y.hl))))), (7, (b_ (decide ((ofR y.la y.lb y.lc) > 1))))] [b1] (fun κ => κ.call 43 [(.agg #[(u_ y.la), (u_ y.lb), (u_ y.lc)])] (i_ (ofR y.la y.lb y.lc)) ∧ True) (by kernel_rfl) ⟨(fun ww ss => rof_spec y.la y.lb y.lc ww), trivial⟩ ?_)
          refine A.tn ?_
          refine A.seq ?_
          refine A.seq ?_
          refine A.region (A.goA [.p, .p, .o, .p, .p, .ld 1, .cq (b_ (shR l y.hp)), .p, .cl] [(0, (.slice al l.length cl)), (1, (.agg #[(i_ y.hi), (i_ y.hp), (b_ y.hl), (u_ y.ra), (u_ y.rb), (u_ y.rc), (u_ y.la), (u_ y.lb), (u_ y.lc), (u_ y.ua), (u_ y.ub), (u_ y.uc), (i_ y.hk), (i_ y.hq)])), (3, (p_ b1)), (4, (p_ b2)), (5, (i_ (wrongR y))), (13, (b_ ((wrongR y) != 0))), (6, (i_ (i : Int))), (22, (b_ (decide ((i : Int) < 0)))), (42, (b_ ((x.hp != y.hp) || (!(x.hl == y.hl))))), (7, (b_ (decide ((ofR y.la y.lb y.lc) > 1)))), (56, (b_ ((decide ((ofR y.la y.lb y.lc) > 1)) && (!(shR l y.hp)))))] [b1] (fun κ => ((true && ((decide ((ofR y.la y.lb y.lc) > 1)) == true)) = true → κ.call 44 [(.slice al l.length cl), (i_ y.hp)] (b_ (shR l y.hp))) ∧ True) (by kernel_rfl) ⟨(fun h_ => (fun ww ss => shR_spec al l cl y.hp (by first | assumption | omega) ww ((rd_sl (i := 0) rfl) ww ss))), trivial⟩ ?_)
          refine A.tn ?_
          refine A.cond (E := (decide ((ofR y.la y.lb y.lc) > 1)) && (!(shR l y.hp))) rfl (fun e4 => ?_) (fun e4 => ?_)
          · skip
            have p4 := e4; try simp only [decide_eq_true_eq, decide_eq_false_iff_not, beq_iff_eq, beq_eq_false_iff_ne, bne_iff_ne, bne_eq_false_iff_eq, ne_eq, Bool.and_eq_true, Bool.or_eq_true, Bool.or_eq_false_iff, Bool.not_eq_true', Bool.not_eq_false', Int.not_lt, Int.not_le, gt_iff_lt, ge_iff_le, Classical.not_not] at p4
            refine A.seq ?_
            refine A.region (A.goAS [.p, .p, .st 2] [(0, (.slice al l.length cl)), (1, (.agg #[(i_ y.hi), (i_ y.hp), (b_ y.hl), (u_ y.ra), (u_ y.rb), (u_ y.rc), (u_ y.la), (u_ y.lb), (u_ y.lc), (u_ y.ua), (u_ y.ub), (u_ y.uc), (i_ y.hk), (i_ y.hq)])), (3, (p_ b1)), (4, (p_ b2)), (5, (i_ (wrongR y))), (13, (b_ ((wrongR y) != 0))), (6, (i_ (i : Int))), (22, (b_ (decide ((i : Int) < 0)))), (42, (b_ ((x.hp != y.hp) || (!(x.hl == y.hl))))), (7, (b_ (decide ((ofR y.la y.lb y.lc) > 1)))), (56, (b_ ((decide ((ofR y.la y.lb y.lc) > 1)) && (!(shR l y.hp)))))] [sl al (l.length) cl 30 14 (V.flat encCl l), blk b1 [(i_ y.hi), (i_ y.hp), (b_ y.hl), (u_ y.ra), (u_ y.rb), (u_ y.rc), (u_ y.la), (u_ y.lb), (u_ y.lc), (u_ y.ua), (u_ y.ub), (u_ y.uc), (i_ y.hk), (i_ y.hq)] 30, blk b2 [(.slice al l.length cl), (i_ 29)] 43] [b2] T0 (by kernel_rfl) trivial ?_)
            refine A.tn ?_
            refine A.ret ?_
            refine A.tr ?_
            have hE_ : setER l y = 29 := by unfold setER; first | (simp_all [fd_ge, fd_neg, gcl]; done) | ((have hq_ := anyI_t (f := shB l y) (by assumption) (by unfold shB; assumption)); simp only [hq_]; first | (simp_all [gcl]; done) | grind [gcl]) | ((have hq_ := anyI_f hn (by omega)); simp only [hq_]; first | (simp_all [gcl]; done) | grind [gcl]) | grind [fd_ge, fd_neg, gcl]
            refine A.setH [sl al ((setLR l y).length) cl 30 14 (V.flat encCl (setLR l y)), blk b1 [(i_ y.hi), (i_ y.hp), (b_ y.hl), (u_ y.ra), (u_ y.rb), (u_ y.rc), (u_ y.la), (u_ y.lb), (u_ y.lc), (u_ y.ua), (u_ y.ub), (u_ y.uc), (i_ y.hk), (i_ y.hq)] 30, blk b2 [(.slice al l.length cl), (i_ 29)] 43] (cc (slC (by first | rfl | exact (setLR_no (by rw [hE_]; first | decide | assumption)).symm | exact (setLR_ok hE_).symm : l = (setLR l y))) rfl) ?_
            refine A.postK [0] [(.agg #[(.slice al l.length cl), (i_ 29)])] (fun aa ww rr ss => ⟨rv_cellN (vs := [(.slice al l.length cl), (i_ 29)]) rr ss rfl (by kernel_rfl) (reads_blk (i := 2) rfl rfl), trivial⟩) (al, cl) ?_ ?_ (by kernel_rfl)
            · show ((.agg #[(.slice al l.length cl), (i_ 29)]) : Value) = (.agg #[(.slice al ((setLR l y).length) cl), (i_ (setER l y))])
              first | (rw [setLR_no (by rw [hE_]; first | decide | assumption), hE_]; done) | (rw [setLR_ok hE_, hE_]; done)
            · trivial
          · skip
            have p4 := e4; try simp only [decide_eq_true_eq, decide_eq_false_iff_not, beq_iff_eq, beq_eq_false_iff_ne, bne_iff_ne, bne_eq_false_iff_eq, ne_eq, Bool.and_eq_true, Bool.or_eq_true, Bool.or_eq_false_iff, Bool.not_eq_true', Bool.not_eq_false', Int.not_lt, Int.not_le, gt_iff_lt, ge_iff_le, Classical.not_not] at p4
            refine A.skip ?_
            refine A.tn ?_
            refine A.seq ?_
            refine A.seq ?_
            refine A.region (A.goP [.p, .p, .ld 1] [(0, (.slice al l.length cl)), (1, (.agg #[(i_ y.hi), (i_ y.hp), (b_ y.hl), (u_ y.ra), (u_ y.rb), (u_ y.rc), (u_ y.la), (u_ y.lb), (u_ y.lc), (u_ y.ua), (u_ y.ub), (u_ y.uc), (i_ y.hk), (i_ y.hq)])), (3, (p_ b1)), (4, (p_ b2)), (5, (i_ (wrongR y))), (13, (b_ ((wrongR y) != 0))), (6, (i_ (i : Int))), (22, (b_ (decide ((i : Int) < 0)))), (42, (b_ ((x.hp != y.hp) || (!(x.hl == y.hl))))), (7, (b_ (decide ((ofR y.la y.lb y.lc) > 1)))), (56, (b_ ((decide ((ofR y.la y.lb y.lc) > 1)) && (!(shR l y.hp))))), (59, (.slice al l.length cl)), (61, (i_ y.hi))] [b1] T0 (by kernel_rfl) trivial ?_)
            refine A.cons (A.callT (some 62) [(.slice al l.length cl), (i_ y.hi)] [] ((fun zz => match zz with | (al'3, cl'4) => (.slice al'3 ((chR l y.hi).length) cl'4))) ((fun zz => match zz with | (al'3, cl'4) => True)) ((fun zz => match zz with | (al'3, cl'4) => [sl al'3 ((chR l y.hi).length) cl'4 3 1 (V.flat encI (chR l y.hi))])) (fun zz => match zz with | (al'3, cl'4) => [sl al'3 ((chR l y.hi).length) cl'4 3 1 (V.flat encI (chR l y.hi)), sl al (l.length) cl 30 14 (V.flat encCl l), blk b1 [(i_ y.hi), (i_ y.hp), (b_ y.hl), (u_ y.ra), (u_ y.rb), (u_ y.rc), (u_ y.la), (u_ y.lb), (u_ y.lc), (u_ y.ua), (u_ y.ub), (u_ y.uc), (i_ y.hk), (i_ y.hq)] 30, blk b2 [e_, (i_ 0)] 43]) (by kernel_rfl) rfl rfl (fun ww ss hh => chR_spec al l cl y.hi (by first | assumption | omega) ww ((rd_sl (i := 0) rfl) ww ss) hh) (fun _ => rfl) ?_)
            rintro ⟨al'3, cl'4⟩ -
            refine A.goA [.p, .p] [(0, (.slice al l.length cl)), (1, (.agg #[(i_ y.hi), (i_ y.hp), (b_ y.hl), (u_ y.ra), (u_ y.rb), (u_ y.rc), (u_ y.la), (u_ y.lb), (u_ y.lc), (u_ y.ua), (u_ y.ub), (u_ y.uc), (i_ y.hk), (i_ y.hq)])), (3, (p_ b1)), (4, (p_ b2)), (5, (i_ (wrongR y))), (13, (b_ ((wrongR y) != 0))), (6, (i_ (i : Int))), (22, (b_ (decide ((i : Int) < 0)))), (42, (b_ ((x.hp != y.hp) || (!(x.hl == y.hl))))), (7, (b_ (decide ((ofR y.la y.lb y.lc) > 1)))), (56, (b_ ((decide ((ofR y.la y.lb y.lc) > 1)) && (!(shR l y.hp))))), (62, (.slice al'3 ((chR l y.hi).length) cl'4)), (63, (i_ ((chR l y.hi).length : Int))), (64, (i_ 0))] [] T0 (by kernel_rfl) trivial ?_
            refine A.tn ?_
            refine A.block ?_
            refine A.loop (fun (zz : Nat) => match zz with | k => [(0, (.slice al l.length cl)), (3, (p_ b1)), (4, (p_ b2)), (7, (b_ (decide ((ofR y.la y.lb y.lc) > 1)))), (62, (.slice al'3 ((chR l y.hi).length) cl'4)), (63, (i_ ((chR l y.hi).length : Int))), (64, (i_ (k : Int)))]) (fun (zz : Nat) => match zz with | k => [sl al'3 ((chR l y.hi).length) cl'4 3 1 (V.flat encI (chR l y.hi)), sl al (l.length) cl 30 14 (V.flat encCl l), blk b1 [(i_ y.hi), (i_ y.hp), (b_ y.hl), (u_ y.ra), (u_ y.rb), (u_ y.rc), (u_ y.la), (u_ y.lb), (u_ y.lc), (u_ y.ua), (u_ y.ub), (u_ y.uc), (i_ y.hk), (i_ y.hq)] 30, blk b2 [e_, (i_ 0)] 43]) (fun (zz : Nat) => match zz with | k => (k ≤ (chR l y.hi).length) ∧ (∀ z ∈ (chR l y.hi).take k, shB l y z = false)) (fun (zz : Nat) => match zz with | k => (chR l y.hi).length - k) (0 : Nat) ⟨(by omega), (by simp)⟩ ?_ ?_
            · exact A.hereK [0, 0, 0, 0] (by exact ⟨rfl, rfl, rfl, rfl, rfl, rfl, rfl, trivial⟩) (by kernel_rfl)
            · rintro k ⟨hk, hn⟩
              have hkl := chR_len l y.hi
              refine A.norm [(0, (.slice al l.length cl)), (3, (p_ b1)), (4, (p_ b2)), (7, (b_ (decide ((ofR y.la y.lb y.lc) > 1)))), (62, (.slice al'3 ((chR l y.hi).length) cl'4)), (63, (i_ ((chR l y.hi).length : Int))), (64, (i_ (k : Int)))] [sl al'3 ((chR l y.hi).length) cl'4 3 1 (V.flat encI (chR l y.hi)), sl al (l.length) cl 30 14 (V.flat encCl l), blk b1 [(i_ y.hi), (i_ y.hp), (b_ y.hl), (u_ y.ra), (u_ y.rb), (u_ y.rc), (u_ y.la), (u_ y.lb), (u_ y.lc), (u_ y.ua), (u_ y.ub), (u_ y.uc), (i_ y.hk), (i_ y.hq)] 30, blk b2 [e_, (i_ 0)] 43] (by exact ⟨rfl, rfl, rfl, rfl, rfl, rfl, rfl, trivial⟩) rfl ?_
              refine A.seq ?_
              refine A.region (A.goA [.p] [(0, (.slice al l.length cl)), (3, (p_ b1)), (4, (p_ b2)), (7, (b_ (decide ((ofR y.la y.lb y.lc) > 1)))), (62, (.slice al'3 ((chR l y.hi).length) cl'4)), (63, (i_ ((chR l y.hi).length : Int))), (64, (i_ (k : Int))), (65, (b_ (decide ((k : Int) < ((chR l y.hi).length : Int)))))] [] T0 (by kernel_rfl) trivial ?_)
              refine A.tn ?_
              refine A.seq ?_
              refine A.cond (E := decide ((k : Int) < ((chR l y.hi).length : Int))) rfl (fun e6 => ?_) (fun e6 => ?_)
              · skip
                have p6 := of_decide_eq_true e6
                refine A.skip ?_
                refine A.tn ?_
                refine A.seq ?_
                refine A.block ?_
                refine A.seq ?_
                refine A.region (A.goP [.ix] [(0, (.slice al l.length cl)), (3, (p_ b1)), (4, (p_ b2)), (7, (b_ (decide ((ofR y.la y.lb y.lc) > 1)))), (62, (.slice al'3 ((chR l y.hi).length) cl'4)), (63, (i_ ((chR l y.hi).length : Int))), (64, (i_ (k : Int))), (65, (b_ (decide ((k : Int) < ((chR l y.hi).length : Int))))), (66, (.pointer (some ((at0 al'3).add (k * 1)))))] [] (fun κ => κ.ix al'3 ((chR l y.hi).length) (k : Int) ∧ True) (by kernel_rfl) ⟨(ixOf encI_len (by decide) (rd_sl (i := 0) rfl) (by first | omega | (simp; omega) | (simp; done))), trivial⟩ ?_)
                obtain ⟨x6, hx6⟩ : ∃ x, ((chR l y.hi))[k]? = some x := ⟨_, List.getElem?_eq_getElem (by omega)⟩
                refine A.goA [.rd [(i_ x6)], .p] [(0, (.slice al l.length cl)), (3, (p_ b1)), (4, (p_ b2)), (7, (b_ (decide ((ofR y.la y.lb y.lc) > 1)))), (62, (.slice al'3 ((chR l y.hi).length) cl'4)), (63, (i_ ((chR l y.hi).length : Int))), (64, (i_ (k : Int))), (65, (b_ (decide ((k : Int) < ((chR l y.hi).length : Int))))), (9, (i_ x6))] [] (fun κ => κ.rd ((at0 al'3).add (k * 1)) [(i_ x6)] ∧ True) (by kernel_rfl) ⟨(reads_at0 (vs := [(i_ x6)]) encI_len (rd_sl (i := 0) rfl) hx6 (by simp) rfl), trivial⟩ ?_
                refine A.tn ?_
                refine A.seq ?_
                refine A.region (A.goA [.p, .p, .p, .o, .p, .p, .cq (b_ (shR l x6)), .cl] [(0, (.slice al l.length cl)), (3, (p_ b1)), (4, (p_ b2)), (7, (b_ (decide ((ofR y.la y.lb y.lc) > 1)))), (62, (.slice al'3 ((chR l y.hi).length) cl'4)), (63, (i_ ((chR l y.hi).length : Int))), (64, (i_ (k : Int))), (65, (b_ (decide ((k : Int) < ((chR l y.hi).length : Int))))), (9, (i_ x6)), (74, (b_ ((!(decide ((ofR y.la y.lb y.lc) > 1))) && (shR l x6))))] [] (fun κ => ((true && ((!(decide ((ofR y.la y.lb y.lc) > 1))) == true)) = true → κ.call 44 [(.slice al l.length cl), (i_ x6)] (b_ (shR l x6))) ∧ True) (by kernel_rfl) ⟨(fun h_ => (fun ww ss => shR_spec al l cl x6 (by first | assumption | omega) ww ((rd_sl (i := 1) rfl) ww ss))), trivial⟩ ?_)
                refine A.tn ?_
                refine A.cond (E := (!(decide ((ofR y.la y.lb y.lc) > 1))) && (shR l x6)) rfl (fun e7 => ?_) (fun e7 => ?_)
                · skip
                  have p7 := e7; try simp only [decide_eq_true_eq, decide_eq_false_iff_not, beq_iff_eq, beq_eq_false_iff_ne, bne_iff_ne, bne_eq_false_iff_eq, ne_eq, Bool.and_eq_true, Bool.or_eq_true, Bool.or_eq_false_iff, Bool.not_eq_true', Bool.not_eq_false', Int.not_lt, Int.not_le, gt_iff_lt, ge_iff_le, Classical.not_not] at p7
                  refine A.seq ?_
                  refine A.region (A.goAS [.p, .p, .st 3] [(0, (.slice al l.length cl)), (3, (p_ b1)), (4, (p_ b2)), (7, (b_ (decide ((ofR y.la y.lb y.lc) > 1)))), (62, (.slice al'3 ((chR l y.hi).length) cl'4)), (63, (i_ ((chR l y.hi).length : Int))), (64, (i_ (k : Int))), (65, (b_ (decide ((k : Int) < ((chR l y.hi).length : Int))))), (9, (i_ x6)), (74, (b_ ((!(decide ((ofR y.la y.lb y.lc) > 1))) && (shR l x6))))] [sl al'3 ((chR l y.hi).length) cl'4 3 1 (V.flat encI (chR l y.hi)), sl al (l.length) cl 30 14 (V.flat encCl l), blk b1 [(i_ y.hi), (i_ y.hp), (b_ y.hl), (u_ y.ra), (u_ y.rb), (u_ y.rc), (u_ y.la), (u_ y.lb), (u_ y.lc), (u_ y.ua), (u_ y.ub), (u_ y.uc), (i_ y.hk), (i_ y.hq)] 30, blk b2 [(.slice al l.length cl), (i_ 29)] 43] [b2] T0 (by kernel_rfl) trivial ?_)
                  refine A.tn ?_
                  refine A.ret ?_
                  refine A.br ?_
                  refine A.tr ?_
                  refine A.tr ?_
                  refine A.br ?_
                  refine A.tr ?_
                  have hE_ : setER l y = 29 := by unfold setER; first | (simp_all [fd_ge, fd_neg, gcl]; done) | ((have hq_ := anyI_t (f := shB l y) (by assumption) (by unfold shB; assumption)); simp only [hq_]; first | (simp_all [gcl]; done) | grind [gcl]) | ((have hq_ := anyI_f hn (by omega)); simp only [hq_]; first | (simp_all [gcl]; done) | grind [gcl]) | grind [fd_ge, fd_neg, gcl]
                  refine A.setH [sl al'3 ((chR l y.hi).length) cl'4 3 1 (V.flat encI (chR l y.hi)), sl al ((setLR l y).length) cl 30 14 (V.flat encCl (setLR l y)), blk b1 [(i_ y.hi), (i_ y.hp), (b_ y.hl), (u_ y.ra), (u_ y.rb), (u_ y.rc), (u_ y.la), (u_ y.lb), (u_ y.lc), (u_ y.ua), (u_ y.ub), (u_ y.uc), (i_ y.hk), (i_ y.hq)] 30, blk b2 [(.slice al l.length cl), (i_ 29)] 43] (cc rfl (cc (slC (by first | rfl | exact (setLR_no (by rw [hE_]; first | decide | assumption)).symm | exact (setLR_ok hE_).symm : l = (setLR l y))) rfl)) ?_
                  refine A.postK [1] [(.agg #[(.slice al l.length cl), (i_ 29)])] (fun aa ww rr ss => ⟨rv_cellN (vs := [(.slice al l.length cl), (i_ 29)]) rr ss rfl (by kernel_rfl) (reads_blk (i := 3) rfl rfl), trivial⟩) (al, cl) ?_ ?_ (by kernel_rfl)
                  · show ((.agg #[(.slice al l.length cl), (i_ 29)]) : Value) = (.agg #[(.slice al ((setLR l y).length) cl), (i_ (setER l y))])
                    first | (rw [setLR_no (by rw [hE_]; first | decide | assumption), hE_]; done) | (rw [setLR_ok hE_, hE_]; done)
                  · trivial
                · skip
                  have p7 := e7; try simp only [decide_eq_true_eq, decide_eq_false_iff_not, beq_iff_eq, beq_eq_false_iff_ne, bne_iff_ne, bne_eq_false_iff_eq, ne_eq, Bool.and_eq_true, Bool.or_eq_true, Bool.or_eq_false_iff, Bool.not_eq_true', Bool.not_eq_false', Int.not_lt, Int.not_le, gt_iff_lt, ge_iff_le, Classical.not_not] at p7
                  refine A.skip ?_
                  refine A.bn ?_
                  refine A.tn ?_
                  refine A.region (A.goA [.w ((k : Int) + 1), .p] [(0, (.slice al l.length cl)), (3, (p_ b1)), (4, (p_ b2)), (7, (b_ (decide ((ofR y.la y.lb y.lc) > 1)))), (62, (.slice al'3 ((chR l y.hi).length) cl'4)), (63, (i_ ((chR l y.hi).length : Int))), (64, (i_ ((k : Int) + 1))), (65, (b_ (decide ((k : Int) < ((chR l y.hi).length : Int))))), (9, (i_ x6)), (74, (b_ ((!(decide ((ofR y.la y.lb y.lc) > 1))) && (shR l x6))))] [] (fun κ => (IntKind.i64.wrap ((k : Int) + 1) = ((k : Int) + 1)) ∧ True) (by kernel_rfl) ⟨(wrap_i64 (e := (k : Int) + 1) (by constructor <;> omega)), trivial⟩ ?_)
                  refine A.tn ?_
                  refine A.next (k + 1) ⟨(by omega), (by exact anyI_s hn (by assumption) (by unfold shB; simp_all))⟩ (by first | omega | (simp; omega) | (simp_all; omega)) ?_
                  exact A.hereK [0, 0, 0, 0] (by exact ⟨rfl, rfl, rfl, rfl, rfl, rfl, rfl, trivial⟩) (by kernel_rfl)
              · skip
                have p6 := of_decide_eq_false e6
                refine A.exit ?_
                refine A.te ?_
                refine A.te ?_
                refine A.bh ?_
                refine A.tn ?_
                refine A.seq ?_
                refine A.region (A.goP [.p, .ld 2] [(0, (.slice al l.length cl)), (3, (p_ b1)), (4, (p_ b2)), (7, (b_ (decide ((ofR y.la y.lb y.lc) > 1)))), (62, (.slice al'3 ((chR l y.hi).length) cl'4)), (63, (i_ ((chR l y.hi).length : Int))), (64, (i_ (k : Int))), (65, (b_ (decide ((k : Int) < ((chR l y.hi).length : Int))))), (78, (.slice al l.length cl)), (79, (.agg #[(i_ y.hi), (i_ y.hp), (b_ y.hl), (u_ y.ra), (u_ y.rb), (u_ y.rc), (u_ y.la), (u_ y.lb), (u_ y.lc), (u_ y.ua), (u_ y.ub), (u_ y.uc), (i_ y.hk), (i_ y.hq)]))] [b1] T0 (by kernel_rfl) trivial ?_)
                refine A.cons (A.callT (some 80) [(.slice al l.length cl), (.agg #[(i_ y.hi), (i_ y.hp), (b_ y.hl), (u_ y.ra), (u_ y.rb), (u_ y.rc), (u_ y.la), (u_ y.lb), (u_ y.lc), (u_ y.ua), (u_ y.ub), (u_ y.uc), (i_ y.hk), (i_ y.hq)])] [] ((fun zz => match zz with | (al'7, cl'8) => (.slice al'7 ((setL y l).length) cl'8))) ((fun zz => match zz with | (al'7, cl'8) => True)) ((fun zz => match zz with | (al'7, cl'8) => [sl al'7 ((setL y l).length) cl'8 30 14 (V.flat encCl (setL y l))])) (fun zz => match zz with | (al'7, cl'8) => [sl al'7 ((setL y l).length) cl'8 30 14 (V.flat encCl (setL y l)), sl al'3 ((chR l y.hi).length) cl'4 3 1 (V.flat encI (chR l y.hi)), sl al (l.length) cl 30 14 (V.flat encCl l), blk b1 [(i_ y.hi), (i_ y.hp), (b_ y.hl), (u_ y.ra), (u_ y.rb), (u_ y.rc), (u_ y.la), (u_ y.lb), (u_ y.lc), (u_ y.ua), (u_ y.ub), (u_ y.uc), (i_ y.hk), (i_ y.hq)] 30, blk b2 [e_, (i_ 0)] 43]) (by kernel_rfl) rfl rfl (fun ww ss hh => put_spec al l cl y (by first | assumption | omega) ww ((rd_sl (i := 1) rfl) ww ss) hh) (fun _ => rfl) ?_)
                rintro ⟨al'7, cl'8⟩ -
                refine A.goAS [.p, .st 4] [(0, (.slice al l.length cl)), (3, (p_ b1)), (4, (p_ b2)), (7, (b_ (decide ((ofR y.la y.lb y.lc) > 1)))), (62, (.slice al'3 ((chR l y.hi).length) cl'4)), (63, (i_ ((chR l y.hi).length : Int))), (64, (i_ (k : Int))), (65, (b_ (decide ((k : Int) < ((chR l y.hi).length : Int)))))] [sl al'7 ((setL y l).length) cl'8 30 14 (V.flat encCl (setL y l)), sl al'3 ((chR l y.hi).length) cl'4 3 1 (V.flat encI (chR l y.hi)), sl al (l.length) cl 30 14 (V.flat encCl l), blk b1 [(i_ y.hi), (i_ y.hp), (b_ y.hl), (u_ y.ra), (u_ y.rb), (u_ y.rc), (u_ y.la), (u_ y.lb), (u_ y.lc), (u_ y.ua), (u_ y.ub), (u_ y.uc), (i_ y.hk), (i_ y.hq)] 30, blk b2 [(.slice al'7 ((setL y l).length) cl'8), (i_ 0)] 43] [b2] T0 (by kernel_rfl) trivial ?_
                refine A.tn ?_
                refine A.ret ?_
                have hE_ : setER l y = 0 := by unfold setER; first | (simp_all [fd_ge, fd_neg, gcl]; done) | ((have hq_ := anyI_t (f := shB l y) (by assumption) (by unfold shB; assumption)); simp only [hq_]; first | (simp_all [gcl]; done) | grind [gcl]) | ((have hq_ := anyI_f hn (by omega)); simp only [hq_]; first | (simp_all [gcl]; done) | grind [gcl]) | grind [fd_ge, fd_neg, gcl]
                refine A.setH [sl al'7 ((setLR l y).length) cl'8 30 14 (V.flat encCl (setLR l y)), sl al'3 ((chR l y.hi).length) cl'4 3 1 (V.flat encI (chR l y.hi)), sl al (l.length) cl 30 14 (V.flat encCl l), blk b1 [(i_ y.hi), (i_ y.hp), (b_ y.hl), (u_ y.ra), (u_ y.rb), (u_ y.rc), (u_ y.la), (u_ y.lb), (u_ y.lc), (u_ y.ua), (u_ y.ub), (u_ y.uc), (i_ y.hk), (i_ y.hq)] 30, blk b2 [(.slice al'7 ((setL y l).length) cl'8), (i_ 0)] 43] (cc (slC (by first | rfl | exact (setLR_no (by rw [hE_]; first | decide | assumption)).symm | exact (setLR_ok hE_).symm : (setL y l) = (setLR l y))) rfl) ?_
                refine A.postK [0] [(.agg #[(.slice al'7 ((setL y l).length) cl'8), (i_ 0)])] (fun aa ww rr ss => ⟨rv_cellN (vs := [(.slice al'7 ((setL y l).length) cl'8), (i_ 0)]) rr ss rfl (by kernel_rfl) (reads_blk (i := 4) rfl rfl), trivial⟩) (al'7, cl'8) ?_ ?_ (by kernel_rfl)
                · show ((.agg #[(.slice al'7 ((setL y l).length) cl'8), (i_ 0)]) : Value) = (.agg #[(.slice al'7 ((setLR l y).length) cl'8), (i_ (setER l y))])
                  first | (rw [setLR_no (by rw [hE_]; first | decide | assumption), hE_]; done) | (rw [setLR_ok hE_, hE_]; done)
                · trivial
end Go.Proofs.Ytpodcfadcdnllaa
