/- What the functions of this layer do, proved operation by operation, for all arguments, under the conditions that each theorem states. -/
import Derived.Test.YtkfmboicmdnjpaaProg
import Derived.Test.YtkfmboicmdnjpaaMatchA
namespace Go.Proofs.Ytkfmboicmdnjpaa
open Go V
set_option linter.unusedVariables false
set_option linter.unusedSimpArgs false
theorem wrong_ok {l : List Rl} (h : wrong l = 0) : l.length ≤ 32 ∧ ∀ x ∈ l, x.good = true := by
  unfold wrong at h; split at h
  · omega
  · split at h
    · rename_i h2; exact ⟨by omega, List.all_eq_true.1 h2⟩
    · omega
theorem new_no (al : Option Addr) (l : List Rl) (cl : Nat) (hn : ¬ wrong l = 0) (hR : ∀ x ∈ l, RlOk x) (w : World) (r0 : arrAt w al (V.flat encRl l)) :
    Calls Try.prog 33 #[(.slice al l.length cl)] w fun e w' => e = .returned (.tuple #[n_, (i_ (wrong l))]) ∧ Fr [] w w' := by
  rcases Nat.lt_or_ge 32 l.length with g | g
  · have e : wrong l = 2 := by unfold wrong; rw [if_pos g]
    rw [e]; exact new_long al l cl g w r0
  · have g2 : ¬ ∀ x ∈ l, x.good = true := fun h2 => hn (by unfold wrong; rw [if_neg (by omega), if_pos (List.all_eq_true.2 h2)])
    have e : wrong l = 1 := by unfold wrong; rw [if_neg (by omega), if_neg (fun h => g2 (List.all_eq_true.1 h))]
    rw [e]; exact new_bad al l cl g g2 hR w r0
theorem findC_nn {l : List Rl} {h : Hd} (hg : ∀ x ∈ l, x.good = true) : findC l h = 0 ∨ 0 < findC l h := by
  unfold findC; split
  · rename_i r hr; right; have := hg r (List.mem_of_find?_eq_some hr); unfold Rl.good at this; simp at this; omega
  · left; rfl
theorem any_snoc {l : List Rl} {k : Nat} {x : Rl} {c : Int} (h : l[k]? = some x) : ((l.take (k + 1)).any fun y => y.cl == c) = (((l.take k).any fun y => y.cl == c) || (x.cl == c)) := by
  rw [take_snoc h, List.any_append]; simp

set_option maxHeartbeats 4000000 in
set_option maxRecDepth 100000 in
theorem matchNil_walk (h : Hd) (c : Int) (w : World) :
    Calls Try.prog 10 #[(.agg #[(w_ h.ha), (w_ h.hb), (w_ h.hc), (w_ h.hd)]), (i_ c)] w fun e w' => e = .returned (b_ true) ∧ Fr [] w w' := by
  refine calls_of (args := [(.agg #[(w_ h.ha), (w_ h.hb), (w_ h.hc), (w_ h.hd)]), (i_ c)]) (penv [(.agg #[(w_ h.ha), (w_ h.hb), (w_ h.hc), (w_ h.hd)]), (i_ c)]) [] [] Try.func10 rfl rfl (look_penv _) (HS.nil w) ?_
  refine A.norm [(0, (.agg #[(w_ h.ha), (w_ h.hb), (w_ h.hc), (w_ h.hd)])), (1, (i_ c))] [] (by exact ⟨rfl, rfl, trivial⟩) rfl ?_
  refine A.seq ?_
  refine A.region (A.goA1 [.al, .p] [0, 1, 2, 4] (fun b1 => [(0, (.agg #[(w_ h.ha), (w_ h.hb), (w_ h.hc), (w_ h.hd)])), (1, (i_ c)), (2, (p_ b1)), (4, (b_ false))]) (fun b1 => [blk b1 [(w_ h.ha), (w_ h.hb), (w_ h.hc), (w_ h.hd)] 56]) (fun b1 => []) (fun _ => T0) (fun _ => by kernel_rfl) (fun b1 => trivial) ?_)
  intro b1
  refine A.tn ?_
  refine A.seq ?_
  refine A.region (A.goA [.p] [(0, (.agg #[(w_ h.ha), (w_ h.hb), (w_ h.hc), (w_ h.hd)])), (1, (i_ c)), (2, (p_ b1)), (4, (b_ false)), (5, n_)] [] T0 (by kernel_rfl) trivial ?_)
  refine A.tn ?_
  refine A.seq ?_
  refine A.region (A.goA [.p, .ld 0, .cq (.tuple #[(i_ 0), (i_ 7)]), .p, .p, .p, .p, .p] [(0, (.agg #[(w_ h.ha), (w_ h.hb), (w_ h.hc), (w_ h.hd)])), (1, (i_ c)), (2, (p_ b1)), (4, (b_ false)), (5, n_), (6, (i_ 0)), (7, (i_ 7))] [b1] (fun κ => κ.call 35 [n_, (.agg #[(w_ h.ha), (w_ h.hb), (w_ h.hc), (w_ h.hd)])] (.tuple #[(i_ 0), (i_ 7)]) ∧ True) (by kernel_rfl) ⟨(fun ww ss => find_nil h ww), trivial⟩ ?_)
  refine A.tn ?_
  refine A.seq ?_
  refine A.region (A.goA [.p, .p, .p, .p, .p, .p, .p, .p, .cq e_, .p, .p, .p, .p, .p, .p, .cq (b_ false), .p, .p, .p, .cq (b_ true), .p, .p] [(0, (.agg #[(w_ h.ha), (w_ h.hb), (w_ h.hc), (w_ h.hd)])), (1, (i_ c)), (2, (p_ b1)), (4, (b_ true)), (5, n_), (6, (i_ 0)), (7, (i_ 7))] [] (fun κ => κ.call 37 [n_] e_ ∧ κ.call 40 [n_, (i_ c)] (b_ false) ∧ κ.call 32 [] (b_ true) ∧ True) (by kernel_rfl) ⟨(fun ww ss => rules_nil ww), (fun ww ss => uses_nil c ww), (fun ww ss => seven_spec ww), trivial⟩ ?_)
  refine A.tn ?_
  refine A.ret ?_
  refine A.postQ [(b_ true)] (fun aa ww rr ss => ⟨rv_tmp rr rfl, trivial⟩) ?_
  rfl

set_option maxHeartbeats 4000000 in
set_option maxRecDepth 100000 in
theorem matchFinds_walk (al : Option Addr) (l : List Rl) (cl : Nat) (h : Hd) (c : Int) (hR : ∀ x ∈ l, RlOk x) (hh : HdOk h) (w : World) (r0 : arrAt w al (V.flat encRl l)) :
    Calls Try.prog 8 #[(.slice al l.length cl), (.agg #[(w_ h.ha), (w_ h.hb), (w_ h.hc), (w_ h.hd)]), (i_ c)] w fun e w' => e = .returned (b_ true) ∧ Fr [] w w' := by
  refine calls_of (args := [(.slice al l.length cl), (.agg #[(w_ h.ha), (w_ h.hb), (w_ h.hc), (w_ h.hd)]), (i_ c)]) (penv [(.slice al l.length cl), (.agg #[(w_ h.ha), (w_ h.hb), (w_ h.hc), (w_ h.hd)]), (i_ c)]) [] [] Try.func8 rfl rfl (look_penv _) (HS.nil w) ?_
  refine A.norm [(0, (.slice al l.length cl)), (1, (.agg #[(w_ h.ha), (w_ h.hb), (w_ h.hc), (w_ h.hd)])), (2, (i_ c))] [] (by exact ⟨rfl, rfl, rfl, trivial⟩) rfl ?_
  refine A.seq ?_
  refine A.region (A.goA1 [.al, .p] [0, 1, 2, 4, 6] (fun b1 => [(0, (.slice al l.length cl)), (1, (.agg #[(w_ h.ha), (w_ h.hb), (w_ h.hc), (w_ h.hd)])), (2, (i_ c)), (4, (p_ b1)), (6, (b_ false))]) (fun b1 => [blk b1 [(w_ h.ha), (w_ h.hb), (w_ h.hc), (w_ h.hd)] 56]) (fun b1 => []) (fun _ => T0) (fun _ => by kernel_rfl) (fun b1 => trivial) ?_)
  intro b1
  refine A.tn ?_
  refine A.seq ?_
  refine A.seq ?_
  refine A.region (A.goA [.p, .p, .p] [(0, (.slice al l.length cl)), (1, (.agg #[(w_ h.ha), (w_ h.hb), (w_ h.hc), (w_ h.hd)])), (2, (i_ c)), (4, (p_ b1)), (6, (b_ false)), (19, (b_ (decide ((l.length : Int) > 60))))] [] T0 (by kernel_rfl) trivial ?_)
  refine A.tn ?_
  refine A.cond (E := decide ((l.length : Int) > 60)) rfl (fun e1 => ?_) (fun e1 => ?_)
  · skip
    have p1 := of_decide_eq_true e1
    refine A.seq ?_
    refine A.region (A.goA [.cq (b_ true), .p] [(0, (.slice al l.length cl)), (1, (.agg #[(w_ h.ha), (w_ h.hb), (w_ h.hc), (w_ h.hd)])), (2, (i_ c)), (4, (p_ b1)), (6, (b_ true)), (19, (b_ (decide ((l.length : Int) > 60))))] [] (fun κ => κ.call 32 [] (b_ true) ∧ True) (by kernel_rfl) ⟨(fun ww ss => seven_spec ww), trivial⟩ ?_)
    refine A.tn ?_
    refine A.ret ?_
    refine A.tr ?_
    refine A.postQ [(b_ true)] (fun aa ww rr ss => ⟨rv_tmp rr rfl, trivial⟩) ?_
    rfl
  · skip
    have p1 := of_decide_eq_false e1
    refine A.skip ?_
    refine A.tn ?_
    refine A.seq ?_
    by_cases hw : wrong l = 0
    · skip
      obtain ⟨hl3, hg⟩ := wrong_ok hw
      refine A.region (A.goP [.p] [(0, (.slice al l.length cl)), (1, (.agg #[(w_ h.ha), (w_ h.hb), (w_ h.hc), (w_ h.hd)])), (2, (i_ c)), (4, (p_ b1)), (6, (b_ false)), (19, (b_ (decide ((l.length : Int) > 60)))), (22, (.slice al l.length cl))] [] T0 (by kernel_rfl) trivial ?_)
      refine A.cons (A.callT (some 23) [(.slice al l.length cl)] [] ((fun zz => match zz with | (bt2, ar3, cr4, mb5, am6, cm7) => (.tuple #[(p_ bt2), (i_ 0)]))) ((fun zz => match zz with | (bt2, ar3, cr4, mb5, am6, cm7) => True)) ((fun zz => match zz with | (bt2, ar3, cr4, mb5, am6, cm7) => [blk bt2 [(.slice ar3 l.length cr4), (.map (some mb5)), (.slice am6 ((maskL l l.length).length) cm7)] 101, sl ar3 (l.length) cr4 65 9 (V.flat encRl l), mapI encK (fun x : Int => i_ x) mb5 (exL l l.length), sl am6 ((maskL l l.length).length) cm7 3 1 (V.flat encI (maskL l l.length))])) (fun zz => match zz with | (bt2, ar3, cr4, mb5, am6, cm7) => [blk bt2 [(.slice ar3 l.length cr4), (.map (some mb5)), (.slice am6 ((maskL l l.length).length) cm7)] 101, sl ar3 (l.length) cr4 65 9 (V.flat encRl l), mapI encK (fun x : Int => i_ x) mb5 (exL l l.length), sl am6 ((maskL l l.length).length) cm7 3 1 (V.flat encI (maskL l l.length)), blk b1 [(w_ h.ha), (w_ h.hb), (w_ h.hc), (w_ h.hd)] 56]) (by kernel_rfl) rfl rfl (fun ww ss hh => new_ok al l cl (by first | assumption | omega | exact hR _ (List.mem_of_getElem? (by assumption))) (by first | assumption | omega | exact hR _ (List.mem_of_getElem? (by assumption))) (by first | assumption | omega | exact hR _ (List.mem_of_getElem? (by assumption))) ww ((rd_old r0 (by simp [feet])) ww ss) hh) (fun _ => rfl) ?_)
      rintro ⟨bt2, ar3, cr4, mb5, am6, cm7⟩ -
      refine A.goA [.p, .p, .p, .p, .p] [(0, (.slice al l.length cl)), (1, (.agg #[(w_ h.ha), (w_ h.hb), (w_ h.hc), (w_ h.hd)])), (2, (i_ c)), (4, (p_ b1)), (6, (b_ false)), (19, (b_ (decide ((l.length : Int) > 60)))), (7, (p_ bt2)), (8, (i_ 0))] [] T0 (by kernel_rfl) trivial ?_
      refine A.tn ?_
      refine A.seq ?_
      refine A.seq ?_
      refine A.region (A.goA [.p, .cq (i_ (wrong l)), .p] [(0, (.slice al l.length cl)), (1, (.agg #[(w_ h.ha), (w_ h.hb), (w_ h.hc), (w_ h.hd)])), (2, (i_ c)), (4, (p_ b1)), (6, (b_ false)), (19, (b_ (decide ((l.length : Int) > 60)))), (7, (p_ bt2)), (8, (i_ 0)), (9, (i_ (wrong l)))] [] (fun κ => κ.call 34 [(.slice al l.length cl)] (i_ (wrong l)) ∧ True) (by kernel_rfl) ⟨(fun ww ss => rwrong_spec al l cl (by first | assumption | omega | exact hR _ (List.mem_of_getElem? (by assumption))) ww ((rd_old r0 (by simp [feet])) ww ss)), trivial⟩ ?_)
      refine A.tn ?_
      refine A.seq ?_
      refine A.region (A.goA [.p, .p] [(0, (.slice al l.length cl)), (1, (.agg #[(w_ h.ha), (w_ h.hb), (w_ h.hc), (w_ h.hd)])), (2, (i_ c)), (4, (p_ b1)), (6, (b_ false)), (19, (b_ (decide ((l.length : Int) > 60)))), (7, (p_ bt2)), (8, (i_ 0)), (9, (i_ (wrong l))), (29, (b_ ((wrong l) != 0)))] [] T0 (by kernel_rfl) trivial ?_)
      refine A.tn ?_
      refine A.cond (E := (wrong l) != 0) rfl (fun e3 => ?_) (fun e3 => ?_)
      · exact absurd e3 (by simp_all)
      · skip
        have p3 := e3; try simp only [decide_eq_true_eq, decide_eq_false_iff_not, beq_iff_eq, beq_eq_false_iff_ne, bne_iff_ne, bne_eq_false_iff_eq, ne_eq, Bool.and_eq_true, Bool.or_eq_true, Bool.or_eq_false_iff, Bool.not_eq_true', Bool.not_eq_false', Int.not_lt, Int.not_le, gt_iff_lt, ge_iff_le, Classical.not_not] at p3
        refine A.skip ?_
        refine A.tn ?_
        refine A.seq ?_
        refine A.region (A.goA [.p, .ld 4, .cq (.tuple #[(i_ (findC l h)), (i_ (errC (findC l h)))]), .p, .p, .p, .p, .p] [(0, (.slice al l.length cl)), (1, (.agg #[(w_ h.ha), (w_ h.hb), (w_ h.hc), (w_ h.hd)])), (2, (i_ c)), (4, (p_ b1)), (6, (b_ false)), (19, (b_ (decide ((l.length : Int) > 60)))), (7, (p_ bt2)), (8, (i_ 0)), (9, (i_ (wrong l))), (29, (b_ ((wrong l) != 0))), (10, (i_ (findC l h))), (11, (i_ (errC (findC l h))))] [b1] (fun κ => κ.call 35 [(p_ bt2), (.agg #[(w_ h.ha), (w_ h.hb), (w_ h.hc), (w_ h.hd)])] (.tuple #[(i_ (findC l h)), (i_ (errC (findC l h)))]) ∧ True) (by kernel_rfl) ⟨(fun ww ss => find_ok bt2 ar3 l cr4 mb5 am6 cm7 h (by first | assumption | omega | exact hR _ (List.mem_of_getElem? (by assumption))) (by first | assumption | omega | exact hR _ (List.mem_of_getElem? (by assumption))) (by first | assumption | omega | exact hR _ (List.mem_of_getElem? (by assumption))) (by first | assumption | omega | exact hR _ (List.mem_of_getElem? (by assumption))) ww (ss.mem (i := 0) rfl) (ss.mem (i := 2) rfl) ((rd_sl (i := 1) rfl) ww ss) ((rd_sl (i := 3) rfl) ww ss)), trivial⟩ ?_)
        refine A.tn ?_
        refine A.seq ?_
        refine A.region (A.goA [.p, .ld 4, .cq (i_ (findC l h)), .p] [(0, (.slice al l.length cl)), (1, (.agg #[(w_ h.ha), (w_ h.hb), (w_ h.hc), (w_ h.hd)])), (2, (i_ c)), (4, (p_ b1)), (6, (b_ false)), (19, (b_ (decide ((l.length : Int) > 60)))), (7, (p_ bt2)), (8, (i_ 0)), (9, (i_ (wrong l))), (29, (b_ ((wrong l) != 0))), (10, (i_ (findC l h))), (11, (i_ (errC (findC l h)))), (12, (i_ (findC l h)))] [b1] (fun κ => κ.call 36 [(.slice al l.length cl), (.agg #[(w_ h.ha), (w_ h.hb), (w_ h.hc), (w_ h.hd)])] (i_ (findC l h)) ∧ True) (by kernel_rfl) ⟨(fun ww ss => rfind_spec al l cl h (by first | assumption | omega | exact hR _ (List.mem_of_getElem? (by assumption))) (by first | assumption | omega | exact hR _ (List.mem_of_getElem? (by assumption))) (by first | assumption | omega | exact hR _ (List.mem_of_getElem? (by assumption))) ww ((rd_old r0 (by simp [feet])) ww ss)), trivial⟩ ?_)
        refine A.tn ?_
        refine A.seq ?_
        refine A.seq ?_
        refine A.region (A.goA [.p, .p, .p, .p, .o, .p, .p, .p, .p, .eq, .cl, .p, .o, .p, .p, .p, .o, .p, .p, .cl, .cl] [(0, (.slice al l.length cl)), (1, (.agg #[(w_ h.ha), (w_ h.hb), (w_ h.hc), (w_ h.hd)])), (2, (i_ c)), (4, (p_ b1)), (6, (b_ false)), (19, (b_ (decide ((l.length : Int) > 60)))), (7, (p_ bt2)), (8, (i_ 0)), (9, (i_ (wrong l))), (29, (b_ ((wrong l) != 0))), (10, (i_ (findC l h))), (11, (i_ (errC (findC l h)))), (12, (i_ (findC l h))), (66, (b_ ((((findC l h) != (findC l h)) || (!(((errC (findC l h)) == 0) == (decide ((findC l h) > 0))))) || (((errC (findC l h)) != 0) && ((errC (findC l h)) != 31)))))] [] T0 (by kernel_rfl) trivial ?_)
        refine A.tn ?_
        refine A.cond (E := (((findC l h) != (findC l h)) || (!(((errC (findC l h)) == 0) == (decide ((findC l h) > 0))))) || (((errC (findC l h)) != 0) && ((errC (findC l h)) != 31))) rfl (fun e4 => ?_) (fun e4 => ?_)
        · exact absurd e4 (by (rcases findC_nn (h := h) hg with hz | hz; (simp [hz, errC]); (simp only [errC]; rw [if_neg (by omega)]; simp; omega)))
        · skip
          have p4 := e4; try simp only [decide_eq_true_eq, decide_eq_false_iff_not, beq_iff_eq, beq_eq_false_iff_ne, bne_iff_ne, bne_eq_false_iff_eq, ne_eq, Bool.and_eq_true, Bool.or_eq_true, Bool.or_eq_false_iff, Bool.not_eq_true', Bool.not_eq_false', Int.not_lt, Int.not_le, gt_iff_lt, ge_iff_le, Classical.not_not] at p4
          refine A.skip ?_
          refine A.tn ?_
          refine A.seq ?_
          refine A.region (A.goP [.p] [(0, (.slice al l.length cl)), (1, (.agg #[(w_ h.ha), (w_ h.hb), (w_ h.hc), (w_ h.hd)])), (2, (i_ c)), (4, (p_ b1)), (6, (b_ false)), (19, (b_ (decide ((l.length : Int) > 60)))), (7, (p_ bt2)), (8, (i_ 0)), (9, (i_ (wrong l))), (29, (b_ ((wrong l) != 0))), (10, (i_ (findC l h))), (11, (i_ (errC (findC l h)))), (12, (i_ (findC l h))), (66, (b_ ((((findC l h) != (findC l h)) || (!(((errC (findC l h)) == 0) == (decide ((findC l h) > 0))))) || (((errC (findC l h)) != 0) && ((errC (findC l h)) != 31))))), (67, (p_ bt2))] [] T0 (by kernel_rfl) trivial ?_)
          refine A.cons (A.callT (some 68) [(p_ bt2)] [] ((fun zz => match zz with | (al'10, cl'11) => (.slice al'10 l.length cl'11))) ((fun zz => match zz with | (al'10, cl'11) => True)) ((fun zz => match zz with | (al'10, cl'11) => [sl al'10 (l.length) cl'11 65 9 (V.flat encRl l)])) (fun zz => match zz with | (al'10, cl'11) => [sl al'10 (l.length) cl'11 65 9 (V.flat encRl l), blk bt2 [(.slice ar3 l.length cr4), (.map (some mb5)), (.slice am6 ((maskL l l.length).length) cm7)] 101, sl ar3 (l.length) cr4 65 9 (V.flat encRl l), mapI encK (fun x : Int => i_ x) mb5 (exL l l.length), sl am6 ((maskL l l.length).length) cm7 3 1 (V.flat encI (maskL l l.length)), blk b1 [(w_ h.ha), (w_ h.hb), (w_ h.hc), (w_ h.hd)] 56]) (by kernel_rfl) rfl rfl (fun ww ss hh => rules_ok bt2 ar3 l cr4 mb5 am6 (maskL l l.length) cm7 (by first | assumption | omega | exact hR _ (List.mem_of_getElem? (by assumption))) ww (ss.mem (i := 0) rfl) ((rd_sl (i := 1) rfl) ww ss) hh) (fun _ => rfl) ?_)
          rintro ⟨al'10, cl'11⟩ -
          refine A.goA [.p] [(0, (.slice al l.length cl)), (1, (.agg #[(w_ h.ha), (w_ h.hb), (w_ h.hc), (w_ h.hd)])), (2, (i_ c)), (4, (p_ b1)), (6, (b_ false)), (19, (b_ (decide ((l.length : Int) > 60)))), (7, (p_ bt2)), (8, (i_ 0)), (9, (i_ (wrong l))), (29, (b_ ((wrong l) != 0))), (10, (i_ (findC l h))), (11, (i_ (errC (findC l h)))), (12, (i_ (findC l h))), (66, (b_ ((((findC l h) != (findC l h)) || (!(((errC (findC l h)) == 0) == (decide ((findC l h) > 0))))) || (((errC (findC l h)) != 0) && ((errC (findC l h)) != 31))))), (13, (.slice al'10 l.length cl'11))] [] T0 (by kernel_rfl) trivial ?_
          refine A.tn ?_
          refine A.seq ?_
          refine A.seq ?_
          refine A.region (A.goA [.p, .p, .p, .p, .p] [(0, (.slice al l.length cl)), (1, (.agg #[(w_ h.ha), (w_ h.hb), (w_ h.hc), (w_ h.hd)])), (2, (i_ c)), (4, (p_ b1)), (6, (b_ false)), (19, (b_ (decide ((l.length : Int) > 60)))), (7, (p_ bt2)), (8, (i_ 0)), (9, (i_ (wrong l))), (29, (b_ ((wrong l) != 0))), (10, (i_ (findC l h))), (11, (i_ (errC (findC l h)))), (12, (i_ (findC l h))), (66, (b_ ((((findC l h) != (findC l h)) || (!(((errC (findC l h)) == 0) == (decide ((findC l h) > 0))))) || (((errC (findC l h)) != 0) && ((errC (findC l h)) != 31))))), (13, (.slice al'10 l.length cl'11)), (73, (b_ ((l.length : Int) != (l.length : Int))))] [] T0 (by kernel_rfl) trivial ?_)
          refine A.tn ?_
          refine A.cond (E := (l.length : Int) != (l.length : Int)) rfl (fun e6 => ?_) (fun e6 => ?_)
          · exact absurd e6 (by simp)
          · skip
            have p6 := e6; try simp only [decide_eq_true_eq, decide_eq_false_iff_not, beq_iff_eq, beq_eq_false_iff_ne, bne_iff_ne, bne_eq_false_iff_eq, ne_eq, Bool.and_eq_true, Bool.or_eq_true, Bool.or_eq_false_iff, Bool.not_eq_true', Bool.not_eq_false', Int.not_lt, Int.not_le, gt_iff_lt, ge_iff_le, Classical.not_not] at p6
            refine A.skip ?_
            refine A.tn ?_
            refine A.seq ?_
            refine A.region (A.goA [.p] [(0, (.slice al l.length cl)), (1, (.agg #[(w_ h.ha), (w_ h.hb), (w_ h.hc), (w_ h.hd)])), (2, (i_ c)), (4, (p_ b1)), (6, (b_ false)), (19, (b_ (decide ((l.length : Int) > 60)))), (7, (p_ bt2)), (8, (i_ 0)), (9, (i_ (wrong l))), (29, (b_ ((wrong l) != 0))), (10, (i_ (findC l h))), (11, (i_ (errC (findC l h)))), (12, (i_ (findC l h))), (66, (b_ ((((findC l h) != (findC l h)) || (!(((errC (findC l h)) == 0) == (decide ((findC l h) > 0))))) || (((errC (findC l h)) != 0) && ((errC (findC l h)) != 31))))), (13, (.slice al'10 l.length cl'11)), (73, (b_ ((l.length : Int) != (l.length : Int)))), (14, (b_ false))] [] T0 (by kernel_rfl) trivial ?_)
            refine A.tn ?_
            refine A.seq ?_
            refine A.seq ?_
            refine A.region (A.goA [.p, .p, .p] [(0, (.slice al l.length cl)), (1, (.agg #[(w_ h.ha), (w_ h.hb), (w_ h.hc), (w_ h.hd)])), (2, (i_ c)), (4, (p_ b1)), (6, (b_ false)), (19, (b_ (decide ((l.length : Int) > 60)))), (7, (p_ bt2)), (8, (i_ 0)), (9, (i_ (wrong l))), (29, (b_ ((wrong l) != 0))), (10, (i_ (findC l h))), (11, (i_ (errC (findC l h)))), (12, (i_ (findC l h))), (66, (b_ ((((findC l h) != (findC l h)) || (!(((errC (findC l h)) == 0) == (decide ((findC l h) > 0))))) || (((errC (findC l h)) != 0) && ((errC (findC l h)) != 31))))), (13, (.slice al'10 l.length cl'11)), (73, (b_ ((l.length : Int) != (l.length : Int)))), (14, (b_ false)), (74, (.slice al l.length cl)), (75, (i_ (l.length : Int))), (76, (i_ 0))] [] T0 (by kernel_rfl) trivial ?_)
            refine A.tn ?_
            refine A.block ?_
            refine A.loop (fun (zz : Nat × Bool) => match zz with | (k, u) => [(2, (i_ c)), (4, (p_ b1)), (7, (p_ bt2)), (8, (i_ 0)), (13, (.slice al'10 l.length cl'11)), (74, (.slice al l.length cl)), (75, (i_ (l.length : Int))), (76, (i_ (k : Int))), (14, (b_ u))]) (fun (zz : Nat × Bool) => match zz with | (k, u) => [sl al'10 (l.length) cl'11 65 9 (V.flat encRl l), blk bt2 [(.slice ar3 l.length cr4), (.map (some mb5)), (.slice am6 ((maskL l l.length).length) cm7)] 101, sl ar3 (l.length) cr4 65 9 (V.flat encRl l), mapI encK (fun x : Int => i_ x) mb5 (exL l l.length), sl am6 ((maskL l l.length).length) cm7 3 1 (V.flat encI (maskL l l.length)), blk b1 [(w_ h.ha), (w_ h.hb), (w_ h.hc), (w_ h.hd)] 56]) (fun (zz : Nat × Bool) => match zz with | (k, u) => (k ≤ l.length) ∧ (u = ((l.take k).any fun y => y.cl == c))) (fun (zz : Nat × Bool) => match zz with | (k, u) => l.length - k) (0, false) ⟨(by first | assumption | omega | (simp_all; done) | (simp_all; omega) | grind), (by simp)⟩ ?_ ?_
            · exact A.hereK [0, 0, 0, 0, 0, 0] (by exact ⟨rfl, rfl, rfl, rfl, rfl, rfl, rfl, rfl, rfl, trivial⟩) (by kernel_rfl)
            · rintro ⟨k, u⟩ ⟨hk, hu⟩
              refine A.norm [(2, (i_ c)), (4, (p_ b1)), (7, (p_ bt2)), (8, (i_ 0)), (13, (.slice al'10 l.length cl'11)), (74, (.slice al l.length cl)), (75, (i_ (l.length : Int))), (76, (i_ (k : Int))), (14, (b_ u))] [sl al'10 (l.length) cl'11 65 9 (V.flat encRl l), blk bt2 [(.slice ar3 l.length cr4), (.map (some mb5)), (.slice am6 ((maskL l l.length).length) cm7)] 101, sl ar3 (l.length) cr4 65 9 (V.flat encRl l), mapI encK (fun x : Int => i_ x) mb5 (exL l l.length), sl am6 ((maskL l l.length).length) cm7 3 1 (V.flat encI (maskL l l.length)), blk b1 [(w_ h.ha), (w_ h.hb), (w_ h.hc), (w_ h.hd)] 56] (by exact ⟨rfl, rfl, rfl, rfl, rfl, rfl, rfl, rfl, rfl, trivial⟩) rfl ?_
              refine A.seq ?_
              refine A.region (A.goA [.p] [(2, (i_ c)), (4, (p_ b1)), (7, (p_ bt2)), (8, (i_ 0)), (13, (.slice al'10 l.length cl'11)), (74, (.slice al l.length cl)), (75, (i_ (l.length : Int))), (76, (i_ (k : Int))), (14, (b_ u)), (77, (b_ (decide ((k : Int) < (l.length : Int)))))] [] T0 (by kernel_rfl) trivial ?_)
              refine A.tn ?_
              refine A.seq ?_
              refine A.cond (E := decide ((k : Int) < (l.length : Int))) rfl (fun e7 => ?_) (fun e7 => ?_)
              · skip
                have p7 := of_decide_eq_true e7
                refine A.skip ?_
                refine A.tn ?_
                refine A.seq ?_
                refine A.block ?_
                refine A.seq ?_
                refine A.region (A.goP [.p, .ix] [(2, (i_ c)), (4, (p_ b1)), (7, (p_ bt2)), (8, (i_ 0)), (13, (.slice al'10 l.length cl'11)), (74, (.slice al l.length cl)), (75, (i_ (l.length : Int))), (76, (i_ (k : Int))), (14, (b_ u)), (77, (b_ (decide ((k : Int) < (l.length : Int))))), (78, (i_ (k : Int))), (79, (.pointer (some ((at0 al).add (k * 9)))))] [] (fun κ => κ.ix al l.length (k : Int) ∧ True) (by kernel_rfl) ⟨(ixOf encRl_len (by decide) (rd_old r0 (by simp [feet])) (by first | omega | (simp; done))), trivial⟩ ?_)
                obtain ⟨x13, hx13⟩ : ∃ x, (l)[k]? = some x := ⟨_, List.getElem?_eq_getElem (by omega)⟩
                refine A.goA1 [.rd [(w_ x13.ma), (w_ x13.mb), (w_ x13.mc), (w_ x13.md), (w_ x13.wa), (w_ x13.wb), (w_ x13.wc), (w_ x13.wd), (i_ x13.cl)], .al, .p, .st 6] [2, 4, 7, 8, 13, 74, 75, 76, 14, 77, 16, 15] (fun b14 => [(2, (i_ c)), (4, (p_ b1)), (7, (p_ bt2)), (8, (i_ 0)), (13, (.slice al'10 l.length cl'11)), (74, (.slice al l.length cl)), (75, (i_ (l.length : Int))), (76, (i_ (k : Int))), (14, (b_ u)), (77, (b_ (decide ((k : Int) < (l.length : Int))))), (16, (p_ b14)), (15, (i_ (k : Int)))]) (fun b14 => [sl al'10 (l.length) cl'11 65 9 (V.flat encRl l), blk bt2 [(.slice ar3 l.length cr4), (.map (some mb5)), (.slice am6 ((maskL l l.length).length) cm7)] 101, sl ar3 (l.length) cr4 65 9 (V.flat encRl l), mapI encK (fun x : Int => i_ x) mb5 (exL l l.length), sl am6 ((maskL l l.length).length) cm7 3 1 (V.flat encI (maskL l l.length)), blk b1 [(w_ h.ha), (w_ h.hb), (w_ h.hc), (w_ h.hd)] 56, blk b14 [(w_ x13.ma), (w_ x13.mb), (w_ x13.mc), (w_ x13.md), (w_ x13.wa), (w_ x13.wb), (w_ x13.wc), (w_ x13.wd), (i_ x13.cl)] 65]) (fun b14 => [b14]) (fun _ => (fun κ => κ.rd ((at0 al).add (k * 9)) [(w_ x13.ma), (w_ x13.mb), (w_ x13.mc), (w_ x13.md), (w_ x13.wa), (w_ x13.wb), (w_ x13.wc), (w_ x13.wd), (i_ x13.cl)] ∧ True)) (fun _ => by kernel_rfl) (fun b14 => ⟨(reads_at0 (vs := [(w_ x13.ma), (w_ x13.mb), (w_ x13.mc), (w_ x13.md), (w_ x13.wa), (w_ x13.wb), (w_ x13.wc), (w_ x13.wd), (i_ x13.cl)]) encRl_len (rd_old r0 (by simp [feet])) hx13 (by simp) rfl), trivial⟩) ?_
                intro b14
                refine A.tn ?_
                refine A.seq ?_
                refine A.seq ?_
                refine A.drawA [.p, .p, .ix, .rd [(w_ x13.ma), (w_ x13.mb), (w_ x13.mc), (w_ x13.md), (w_ x13.wa), (w_ x13.wb), (w_ x13.wc), (w_ x13.wd), (i_ x13.cl)], .ld 6, .eq, .p, .o, .ld 6, .ld 5, .cq (b_ (mt x13 h)), .ld 6, .ld 5, .cq (b_ (mt x13 h)), .eq, .cl] [0, 1, 2, 3, 4, 5, 6, 7, 8, 9, 10, 11, 12, 13, 14] [(2, (i_ c)), (4, (p_ b1)), (7, (p_ bt2)), (8, (i_ 0)), (13, (.slice al'10 l.length cl'11)), (74, (.slice al l.length cl)), (75, (i_ (l.length : Int))), (76, (i_ (k : Int))), (14, (b_ u)), (77, (b_ (decide ((k : Int) < (l.length : Int))))), (16, (p_ b14)), (15, (i_ (k : Int))), (95, (b_ ((!(((x13.ma == x13.ma) && ((x13.mb == x13.mb) && ((x13.mc == x13.mc) && (x13.md == x13.md)))) && (((x13.wa == x13.wa) && ((x13.wb == x13.wb) && ((x13.wc == x13.wc) && (x13.wd == x13.wd)))) && (x13.cl == x13.cl)))) || (!((mt x13 h) == (mt x13 h))))))] [b14, b14, b1, b14, b1] (fun κ => κ.ix al'10 l.length (k : Int) ∧ κ.rd ((at0 al'10).add (k * 9)) [(w_ x13.ma), (w_ x13.mb), (w_ x13.mc), (w_ x13.md), (w_ x13.wa), (w_ x13.wb), (w_ x13.wc), (w_ x13.wd), (i_ x13.cl)] ∧ ((true && ((!(((x13.ma == x13.ma) && ((x13.mb == x13.mb) && ((x13.mc == x13.mc) && (x13.md == x13.md)))) && (((x13.wa == x13.wa) && ((x13.wb == x13.wb) && ((x13.wc == x13.wc) && (x13.wd == x13.wd)))) && (x13.cl == x13.cl)))) == false)) = true → κ.call 38 [(.agg #[(w_ x13.ma), (w_ x13.mb), (w_ x13.mc), (w_ x13.md), (w_ x13.wa), (w_ x13.wb), (w_ x13.wc), (w_ x13.wd), (i_ x13.cl)]), (.agg #[(w_ h.ha), (w_ h.hb), (w_ h.hc), (w_ h.hd)])] (b_ (mt x13 h))) ∧ ((true && ((!(((x13.ma == x13.ma) && ((x13.mb == x13.mb) && ((x13.mc == x13.mc) && (x13.md == x13.md)))) && (((x13.wa == x13.wa) && ((x13.wb == x13.wb) && ((x13.wc == x13.wc) && (x13.wd == x13.wd)))) && (x13.cl == x13.cl)))) == false)) = true → κ.call 39 [(.agg #[(w_ x13.ma), (w_ x13.mb), (w_ x13.mc), (w_ x13.md), (w_ x13.wa), (w_ x13.wb), (w_ x13.wc), (w_ x13.wd), (i_ x13.cl)]), (.agg #[(w_ h.ha), (w_ h.hb), (w_ h.hc), (w_ h.hd)])] (b_ (mt x13 h))) ∧ True) (by kernel_rfl) (by kernel_rfl) ⟨(ixOf encRl_len (by decide) (rd_sl (i := 0) rfl) (by first | omega | (simp; done))), (reads_at0 (vs := [(w_ x13.ma), (w_ x13.mb), (w_ x13.mc), (w_ x13.md), (w_ x13.wa), (w_ x13.wb), (w_ x13.wc), (w_ x13.wd), (i_ x13.cl)]) encRl_len (rd_sl (i := 0) rfl) hx13 (by simp) rfl), (fun h_ => (fun ww ss => matches_spec x13 h (by first | assumption | omega | exact hR _ (List.mem_of_getElem? (by assumption))) (by first | assumption | omega | exact hR _ (List.mem_of_getElem? (by assumption))) ww)), (fun h_ => (fun ww ss => rmatches_spec x13 h (by first | assumption | omega | exact hR _ (List.mem_of_getElem? (by assumption))) (by first | assumption | omega | exact hR _ (List.mem_of_getElem? (by assumption))) ww)), trivial⟩ ?_
                refine A.tn ?_
                refine A.cond (E := (!(((x13.ma == x13.ma) && ((x13.mb == x13.mb) && ((x13.mc == x13.mc) && (x13.md == x13.md)))) && (((x13.wa == x13.wa) && ((x13.wb == x13.wb) && ((x13.wc == x13.wc) && (x13.wd == x13.wd)))) && (x13.cl == x13.cl)))) || (!((mt x13 h) == (mt x13 h)))) rfl (fun e8 => ?_) (fun e8 => ?_)
                · exact absurd e8 (by simp)
                · skip
                  have p8 := e8; try simp only [decide_eq_true_eq, decide_eq_false_iff_not, beq_iff_eq, beq_eq_false_iff_ne, bne_iff_ne, bne_eq_false_iff_eq, ne_eq, Bool.and_eq_true, Bool.or_eq_true, Bool.or_eq_false_iff, Bool.not_eq_true', Bool.not_eq_false', Int.not_lt, Int.not_le, gt_iff_lt, ge_iff_le, Classical.not_not] at p8
                  refine A.skip ?_
                  refine A.tn ?_
                  refine A.region (A.goA [.p, .p, .o, .p, .ld 6, .p, .p, .cl, .p] [(2, (i_ c)), (4, (p_ b1)), (7, (p_ bt2)), (8, (i_ 0)), (13, (.slice al'10 l.length cl'11)), (74, (.slice al l.length cl)), (75, (i_ (l.length : Int))), (76, (i_ (k : Int))), (14, (b_ (u || (x13.cl == c)))), (77, (b_ (decide ((k : Int) < (l.length : Int))))), (16, (p_ b14)), (15, (i_ (k : Int))), (95, (b_ ((!(((x13.ma == x13.ma) && ((x13.mb == x13.mb) && ((x13.mc == x13.mc) && (x13.md == x13.md)))) && (((x13.wa == x13.wa) && ((x13.wb == x13.wb) && ((x13.wc == x13.wc) && (x13.wd == x13.wd)))) && (x13.cl == x13.cl)))) || (!((mt x13 h) == (mt x13 h))))))] [b14] T0 (by kernel_rfl) trivial ?_)
                  refine A.bn ?_
                  refine A.tn ?_
                  refine A.region (A.goA [.w ((k : Int) + 1), .p] [(2, (i_ c)), (4, (p_ b1)), (7, (p_ bt2)), (8, (i_ 0)), (13, (.slice al'10 l.length cl'11)), (74, (.slice al l.length cl)), (75, (i_ (l.length : Int))), (76, (i_ ((k : Int) + 1))), (14, (b_ (u || (x13.cl == c)))), (77, (b_ (decide ((k : Int) < (l.length : Int))))), (16, (p_ b14)), (15, (i_ (k : Int))), (95, (b_ ((!(((x13.ma == x13.ma) && ((x13.mb == x13.mb) && ((x13.mc == x13.mc) && (x13.md == x13.md)))) && (((x13.wa == x13.wa) && ((x13.wb == x13.wb) && ((x13.wc == x13.wc) && (x13.wd == x13.wd)))) && (x13.cl == x13.cl)))) || (!((mt x13 h) == (mt x13 h))))))] [] (fun κ => (IntKind.i64.wrap ((k : Int) + 1) = ((k : Int) + 1)) ∧ True) (by kernel_rfl) ⟨(wrap_i64 (e := (k : Int) + 1) (by constructor <;> omega)), trivial⟩ ?_)
                  refine A.tn ?_
                  refine A.next (k + 1, u || (x13.cl == c)) ⟨(by first | assumption | omega | (simp_all; done) | (simp_all; omega) | grind), (by (rw [any_snoc (by assumption), ← hu]))⟩ (by first | omega | (simp; omega) | (simp_all; omega)) ?_
                  exact A.hereK [0, 0, 0, 0, 0, 0] (by exact ⟨rfl, rfl, rfl, rfl, rfl, rfl, rfl, rfl, rfl, trivial⟩) (by kernel_rfl)
              · skip
                have p7 := of_decide_eq_false e7
                refine A.exit ?_
                refine A.te ?_
                refine A.te ?_
                refine A.bh ?_
                refine A.tn ?_
                refine A.seq ?_
                refine A.region (A.goA [.p, .p, .p, .p, .p, .cq (b_ (l.any fun y => y.cl == c)), .p, .eq, .p, .p, .o, .cq (b_ true), .cl, .p] [(2, (i_ c)), (4, (p_ b1)), (7, (p_ bt2)), (8, (i_ 0)), (13, (.slice al'10 l.length cl'11)), (74, (.slice al l.length cl)), (75, (i_ (l.length : Int))), (76, (i_ (k : Int))), (14, (b_ u)), (77, (b_ (decide ((k : Int) < (l.length : Int))))), (6, (b_ (((l.any fun y => y.cl == c) == u) && true)))] [] (fun κ => κ.call 40 [(p_ bt2), (i_ c)] (b_ (l.any fun y => y.cl == c)) ∧ ((true && (((l.any fun y => y.cl == c) == u) == true)) = true → κ.call 32 [] (b_ true)) ∧ True) (by kernel_rfl) ⟨(fun ww ss => uses_ok bt2 ar3 l cr4 mb5 am6 (maskL l l.length) cm7 c (by first | assumption | omega | exact hR _ (List.mem_of_getElem? (by assumption))) ww (ss.mem (i := 1) rfl) ((rd_sl (i := 2) rfl) ww ss)), (fun h_ => (fun ww ss => seven_spec ww)), trivial⟩ ?_)
                refine A.tn ?_
                refine A.ret ?_
                refine A.postQ [(b_ (((l.any fun y => y.cl == c) == u) && true))] (fun aa ww rr ss => ⟨rv_tmp rr rfl, trivial⟩) ?_
                show ((b_ (((l.any fun y => y.cl == c) == u) && true)) : Value) = (b_ true)
                first | rfl | (simp_all; done) | (rw [List.take_of_length_le (by omega)] at hu; simp_all)
    · skip
      refine A.region (A.goA [.p, .cq (.tuple #[n_, (i_ (wrong l))]), .p, .p, .p, .p, .p] [(0, (.slice al l.length cl)), (1, (.agg #[(w_ h.ha), (w_ h.hb), (w_ h.hc), (w_ h.hd)])), (2, (i_ c)), (4, (p_ b1)), (6, (b_ false)), (19, (b_ (decide ((l.length : Int) > 60)))), (7, n_), (8, (i_ (wrong l)))] [] (fun κ => κ.call 33 [(.slice al l.length cl)] (.tuple #[n_, (i_ (wrong l))]) ∧ True) (by kernel_rfl) ⟨(fun ww ss => new_no al l cl (by first | assumption | omega | exact hR _ (List.mem_of_getElem? (by assumption))) (by first | assumption | omega | exact hR _ (List.mem_of_getElem? (by assumption))) ww ((rd_old r0 (by simp [feet])) ww ss)), trivial⟩ ?_)
      refine A.tn ?_
      refine A.seq ?_
      refine A.seq ?_
      refine A.region (A.goA [.p, .cq (i_ (wrong l)), .p] [(0, (.slice al l.length cl)), (1, (.agg #[(w_ h.ha), (w_ h.hb), (w_ h.hc), (w_ h.hd)])), (2, (i_ c)), (4, (p_ b1)), (6, (b_ false)), (19, (b_ (decide ((l.length : Int) > 60)))), (7, n_), (8, (i_ (wrong l))), (9, (i_ (wrong l)))] [] (fun κ => κ.call 34 [(.slice al l.length cl)] (i_ (wrong l)) ∧ True) (by kernel_rfl) ⟨(fun ww ss => rwrong_spec al l cl (by first | assumption | omega | exact hR _ (List.mem_of_getElem? (by assumption))) ww ((rd_old r0 (by simp [feet])) ww ss)), trivial⟩ ?_)
      refine A.tn ?_
      refine A.seq ?_
      refine A.region (A.goA [.p, .p] [(0, (.slice al l.length cl)), (1, (.agg #[(w_ h.ha), (w_ h.hb), (w_ h.hc), (w_ h.hd)])), (2, (i_ c)), (4, (p_ b1)), (6, (b_ false)), (19, (b_ (decide ((l.length : Int) > 60)))), (7, n_), (8, (i_ (wrong l))), (9, (i_ (wrong l))), (29, (b_ ((wrong l) != 0)))] [] T0 (by kernel_rfl) trivial ?_)
      refine A.tn ?_
      refine A.cond (E := (wrong l) != 0) rfl (fun e9 => ?_) (fun e9 => ?_)
      · skip
        have p9 := e9; try simp only [decide_eq_true_eq, decide_eq_false_iff_not, beq_iff_eq, beq_eq_false_iff_ne, bne_iff_ne, bne_eq_false_iff_eq, ne_eq, Bool.and_eq_true, Bool.or_eq_true, Bool.or_eq_false_iff, Bool.not_eq_true', Bool.not_eq_false', Int.not_lt, Int.not_le, gt_iff_lt, ge_iff_le, Classical.not_not] at p9
        refine A.seq ?_
        refine A.region (A.goA [.p, .p, .p, .p, .o, .p, .p, .cl, .p, .o, .cq (b_ true), .cl, .p] [(0, (.slice al l.length cl)), (1, (.agg #[(w_ h.ha), (w_ h.hb), (w_ h.hc), (w_ h.hd)])), (2, (i_ c)), (4, (p_ b1)), (6, (b_ ((((wrong l) == (wrong l)) && true) && true))), (19, (b_ (decide ((l.length : Int) > 60)))), (7, n_), (8, (i_ (wrong l))), (9, (i_ (wrong l))), (29, (b_ ((wrong l) != 0)))] [] (fun κ => ((true && ((((wrong l) == (wrong l)) && true) == true)) = true → κ.call 32 [] (b_ true)) ∧ True) (by kernel_rfl) ⟨(fun h_ => (fun ww ss => seven_spec ww)), trivial⟩ ?_)
        refine A.tn ?_
        refine A.ret ?_
        refine A.tr ?_
        refine A.postQ [(b_ ((((wrong l) == (wrong l)) && true) && true))] (fun aa ww rr ss => ⟨rv_tmp rr rfl, trivial⟩) ?_
        show ((b_ ((((wrong l) == (wrong l)) && true) && true)) : Value) = (b_ true)
        first | rfl | (simp_all; done) | (rw [List.take_of_length_le (by omega)] at hu; simp_all)
      · exact absurd e9 (by simp_all)
end Go.Proofs.Ytkfmboicmdnjpaa
