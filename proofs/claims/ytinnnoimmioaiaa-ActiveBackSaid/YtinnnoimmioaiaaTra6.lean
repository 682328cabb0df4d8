/- What the functions of this layer do, proved operation by operation, for all arguments, under the conditions that each theorem states. -/
import Derived.Test.YtinnnoimmioaiaaProg
import Derived.Test.YtinnnoimmioaiaaHierC
import Derived.Test.YtinnnoimmioaiaaActZ
namespace Go.Proofs.Ytinnnoimmioaiaa
open Go V
set_option linter.unusedVariables false
set_option linter.unusedSimpArgs false
def oneER (l : List Cl) (z : Zc) : Int := if z.zk = 1 then addER l (clZ z) else if z.zk = 2 then delER l z.zi else if z.zk = 3 then setER l (clZ z) else 1
def oneLR (l : List Cl) (z : Zc) : List Cl := if z.zk = 1 then addLR l (clZ z) else if z.zk = 2 then delLR l z.zi else if z.zk = 3 then setLR l (clZ z) else l
theorem eqC_lists {xs ys : List Cl} (h : xs.length = ys.length) (hn : ∀ j, j < xs.length → xs[j]? = ys[j]?) : true = (xs == ys) := by
  have : xs = ys := List.ext_getElem? fun j => by
    rcases Nat.lt_or_ge j xs.length with g | g
    · exact hn j g
    · rw [List.getElem?_eq_none g, List.getElem?_eq_none (by omega)]
  simp [this]
theorem neC_at {xs ys : List Cl} {k : Nat} {x y : Cl} (hx : xs[k]? = some x) (hy : ys[k]? = some y) (h : ¬ x = y) : false = (xs == ys) := by
  symm; rw [beq_eq_false_iff_ne]; rintro rfl; rw [hx] at hy; cases hy; exact h rfl
theorem neC_len {xs ys : List Cl} (h : ¬ (xs.length : Int) = ys.length) : false = (xs == ys) := by
  symm; rw [beq_eq_false_iff_ne]; rintro rfl; exact h rfl
theorem cl_eq14 {x y : Cl} : x = y ↔ x.hi = y.hi ∧ x.hp = y.hp ∧ x.hl = y.hl ∧ x.ra = y.ra ∧ x.rb = y.rb ∧ x.rc = y.rc ∧ x.la = y.la ∧ x.lb = y.lb ∧ x.lc = y.lc ∧ x.ua = y.ua ∧ x.ub = y.ub ∧ x.uc = y.uc ∧ x.hk = y.hk ∧ x.hq = y.hq := by
  cases x; cases y; simp

set_option maxHeartbeats 4000000 in
set_option maxRecDepth 100000 in
theorem radd_no (al : Option Addr) (l : List Cl) (cl : Nat) (y : Cl) (hl : l.length ≤ 100000) (hno : addER l y ≠ 0) (w : World) (r0 : arrAt w al (V.flat encCl l)) (hs : HS w (feet []) [] w) :
    Calls Try.prog 115 #[vS al l cl, (.agg (encCl y).toArray)] w fun e w' => ∃ zz, e = .returned ((fun (zz : Unit) => (.agg #[vS al l cl, i_ (addER l y)])) zz) ∧ (fun (zz : Unit) => True) zz ∧ Turn [] ((fun (zz : Unit) => []) zz) w w' := by
  have hul := fun k => upL_len (kvl l) y.hp k
  refine calls_of (args := [vS al l cl, (.agg (encCl y).toArray)]) (penv [vS al l cl, (.agg (encCl y).toArray)]) (feet []) [] Try.func115 rfl rfl (look_penv _) hs ?_
  refine A.norm [(0, vS al l cl), (1, (.agg (encCl y).toArray))] [] (by exact ⟨rfl, rfl, trivial⟩) rfl ?_
  refine A.seq (A.region (A.goA2 [.al, .al] [0, 3, 4] (fun b1 b2 => [(0, vS al l cl), (3, p_ b1), (4, p_ b2)]) (fun b1 b2 => [blk b1 (encCl y) 98, blk b2 [e_, i_ 0] 113]) (fun b1 b2 => []) (fun _ _ => T0) (fun _ _ => by kernel_rfl) (fun b1 b2 => trivial) ?_))
  intro b1 b2
  refine A.tn (A.seq (A.seq (A.region (A.goA [.ld 0, .cq (i_ (wrongR y)), .p] [(0, vS al l cl), (3, p_ b1), (4, p_ b2), (5, i_ (wrongR y))] [b1] (fun κ => κ.call 144 [(.agg (encCl y).toArray)] (i_ (wrongR y)) ∧ True) (by kernel_rfl) ⟨(fun ww ss => rwrong_spec y ww), trivial⟩ ?_))))
  refine A.tn (A.seq (A.region (A.goA [.p, .p] [(0, vS al l cl), (3, p_ b1), (4, p_ b2), (5, i_ (wrongR y)), (10, b_ ((wrongR y) != 0))] [] T0 (by kernel_rfl) trivial ?_)))
  refine A.tn (A.cond (E := (wrongR y) != 0) rfl (fun e1 => ?_) (fun e1 => ?_))
  · skip
    have p1 := e1; try simp only [nrm] at p1
    refine A.seq (A.region (A.goAS [.p, .p, .p, .st 1] [(4, p_ b2)] [blk b1 (encCl y) 98, blk b2 [vS al l cl, i_ (wrongR y)] 113] [b2] T0 (by kernel_rfl) trivial ?_))
    refine A.tn (A.ret (A.tr ?_))
    have hE_ : addER l y = (wrongR y) := by (clear hno; unfold addER; first | (simp_all [fd_ge, fd_neg, gcl]; done) | ((have hi0 : ¬ (i : Int) < 0 := by omega); simp [hi0] at *; simp_all [fd_ge, fd_neg, gcl]; done) | (simp_all [fd_ge, fd_neg, gcl]; omega) | grind [fd_ge, fd_neg, gcl])
    refine A.postK [] [(.agg #[vS al l cl, i_ (wrongR y)])] (fun aa ww rr ss => ⟨rv_cellN (vs := [vS al l cl, i_ (wrongR y)]) rr ss rfl (by kernel_rfl) (reads_blk (i := 1) rfl rfl), trivial⟩) () ?_ ?_ (by kernel_rfl)
    · show ((.agg #[vS al l cl, i_ (wrongR y)]) : Value) = (.agg #[vS al l cl, i_ (addER l y)])
      first | rfl | (rw [hE_]; done) | (rw [List.take_of_length_le (by omega), addLR_ok hok]; done) | (rw [addLR_ok hok]; done)
    · trivial
  · skip
    have p1 := e1; try simp only [nrm] at p1
    refine A.skip (A.tn (A.seq (A.seq (A.region (A.goA [.p, .p, .ld 0, .cq (i_ (oI (fd y.hi l))), .p] [(0, vS al l cl), (3, p_ b1), (4, p_ b2), (18, b_ (decide ((oI (fd y.hi l)) ≥ 0)))] [b1] (fun κ => κ.call 68 [vS al l cl, i_ y.hi] (i_ (oI (fd y.hi l))) ∧ True) (by kernel_rfl) ⟨(fun ww ss => fd_spec al l cl y.hi (by first | assumption | omega) ww ((rd_old r0 (by simp [feet])) ww ss)), trivial⟩ ?_)))))
    refine A.tn (A.cond (E := decide ((oI (fd y.hi l)) ≥ 0)) rfl (fun e2 => ?_) (fun e2 => ?_))
    · skip
      have p2 := of_decide_eq_true e2
      refine A.seq (A.region (A.goAS [.p, .p, .st 1] [(4, p_ b2)] [blk b1 (encCl y) 98, blk b2 [vS al l cl, i_ 8] 113] [b2] T0 (by kernel_rfl) trivial ?_))
      refine A.tn (A.ret (A.tr ?_))
      have hE_ : addER l y = 8 := by (clear hno; unfold addER; first | (simp_all [fd_ge, fd_neg, gcl]; done) | ((have hi0 : ¬ (i : Int) < 0 := by omega); simp [hi0] at *; simp_all [fd_ge, fd_neg, gcl]; done) | (simp_all [fd_ge, fd_neg, gcl]; omega) | grind [fd_ge, fd_neg, gcl])
      refine A.postK [] [(.agg #[vS al l cl, i_ 8])] (fun aa ww rr ss => ⟨rv_cellN (vs := [vS al l cl, i_ 8]) rr ss rfl (by kernel_rfl) (reads_blk (i := 1) rfl rfl), trivial⟩) () ?_ ?_ (by kernel_rfl)
      · show ((.agg #[vS al l cl, i_ 8]) : Value) = (.agg #[vS al l cl, i_ (addER l y)])
        first | rfl | (rw [hE_]; done) | (rw [List.take_of_length_le (by omega), addLR_ok hok]; done) | (rw [addLR_ok hok]; done)
      · trivial
    · skip
      have p2 := of_decide_eq_false e2
      refine A.skip (A.tn (A.seq (A.seq (A.region (A.goA [.p, .p, .p] [(0, vS al l cl), (3, p_ b1), (4, p_ b2), (23, b_ ((l.length : Int) == 64))] [] T0 (by kernel_rfl) trivial ?_)))))
      refine A.tn (A.cond (E := (l.length : Int) == 64) rfl (fun e3 => ?_) (fun e3 => ?_))
      · skip
        have p3 := e3; try simp only [nrm] at p3
        refine A.seq (A.region (A.goAS [.p, .p, .st 1] [(4, p_ b2)] [blk b1 (encCl y) 98, blk b2 [vS al l cl, i_ 5] 113] [b2] T0 (by kernel_rfl) trivial ?_))
        refine A.tn (A.ret (A.tr ?_))
        have hE_ : addER l y = 5 := by (clear hno; unfold addER; first | (simp_all [fd_ge, fd_neg, gcl]; done) | ((have hi0 : ¬ (i : Int) < 0 := by omega); simp [hi0] at *; simp_all [fd_ge, fd_neg, gcl]; done) | (simp_all [fd_ge, fd_neg, gcl]; omega) | grind [fd_ge, fd_neg, gcl])
        refine A.postK [] [(.agg #[vS al l cl, i_ 5])] (fun aa ww rr ss => ⟨rv_cellN (vs := [vS al l cl, i_ 5]) rr ss rfl (by kernel_rfl) (reads_blk (i := 1) rfl rfl), trivial⟩) () ?_ ?_ (by kernel_rfl)
        · show ((.agg #[vS al l cl, i_ 5]) : Value) = (.agg #[vS al l cl, i_ (addER l y)])
          first | rfl | (rw [hE_]; done) | (rw [List.take_of_length_le (by omega), addLR_ok hok]; done) | (rw [addLR_ok hok]; done)
        · trivial
      · skip
        have p3 := e3; try simp only [nrm] at p3
        refine A.skip (A.tn (A.seq (A.region (A.goA [.p, .p, .ld 0, .cq (i_ (oI (fd y.hp l))), .p] [(0, vS al l cl), (3, p_ b1), (4, p_ b2), (6, i_ (oI (fd y.hp l)))] [b1] (fun κ => κ.call 68 [vS al l cl, i_ y.hp] (i_ (oI (fd y.hp l))) ∧ True) (by kernel_rfl) ⟨(fun ww ss => fd_spec al l cl y.hp (by first | assumption | omega) ww ((rd_old r0 (by simp [feet])) ww ss)), trivial⟩ ?_))))
        refine A.tn (A.seq (A.seq ?_))
        by_cases ho : fd y.hp l = none
        · skip
          have hm := fd_no ho
          refine A.sub [(0, vS al l cl), (3, p_ b1), (4, p_ b2), (6, i_ (-1))] (by exact ⟨rfl, rfl, rfl, congrArg (fun z_ => some (i_ z_)) (by rw [ho]; rfl : (oI (fd y.hp l)) = -1), trivial⟩) ?_
          refine A.region (A.goP [.p, .ld 0, .p, .p] [(0, vS al l cl), (3, p_ b1), (4, p_ b2), (6, i_ (-1)), (33, b_ (y.hp != 0))] [b1] T0 (by kernel_rfl) trivial ?_)
          refine A.bool (y.hp != 0) (fun e4 => ?_) (fun e4 => ?_)
          · skip
            refine A.sub [(0, vS al l cl), (3, p_ b1), (4, p_ b2), (6, i_ (-1)), (33, b_ true)] (by exact ⟨rfl, rfl, rfl, rfl, congrArg (fun z => some (Value.bool z)) e4, trivial⟩) ?_
            refine A.goA [.p, .p, .p, .sk, .sk, .sk, .sk, .sk, .p, .p] [(0, vS al l cl), (3, p_ b1), (4, p_ b2), (43, b_ true)] [] T0 (by kernel_rfl) trivial ?_
            refine A.tn (A.cond_t rfl (A.seq (A.region (A.goAS [.p, .p, .st 1] [(4, p_ b2)] [blk b1 (encCl y) 98, blk b2 [vS al l cl, i_ 23] 113] [b2] T0 (by kernel_rfl) trivial ?_))))
            refine A.tn (A.ret (A.tr ?_))
            have hE_ : addER l y = 23 := by (clear hno; unfold addER; first | (simp_all [fd_ge, fd_neg, gcl]; done) | ((have hi0 : ¬ (i : Int) < 0 := by omega); simp [hi0] at *; simp_all [fd_ge, fd_neg, gcl]; done) | (simp_all [fd_ge, fd_neg, gcl]; omega) | grind [fd_ge, fd_neg, gcl])
            refine A.postK [] [(.agg #[vS al l cl, i_ 23])] (fun aa ww rr ss => ⟨rv_cellN (vs := [vS al l cl, i_ 23]) rr ss rfl (by kernel_rfl) (reads_blk (i := 1) rfl rfl), trivial⟩) () ?_ ?_ (by kernel_rfl)
            · show ((.agg #[vS al l cl, i_ 23]) : Value) = (.agg #[vS al l cl, i_ (addER l y)])
              first | rfl | (rw [hE_]; done) | (rw [List.take_of_length_le (by omega), addLR_ok hok]; done) | (rw [addLR_ok hok]; done)
            · trivial
          · skip
            refine A.sub [(0, vS al l cl), (3, p_ b1), (4, p_ b2), (6, i_ (-1)), (33, b_ false)] (by exact ⟨rfl, rfl, rfl, rfl, congrArg (fun z => some (Value.bool z)) e4, trivial⟩) ?_
            refine A.goA [.sk, .sk, .sk, .sk, .sk, .sk, .sk, .sk, .sk, .p] [(0, vS al l cl), (3, p_ b1), (4, p_ b2), (43, b_ false)] [] T0 (by kernel_rfl) trivial ?_
            refine A.tn (A.cond_f rfl (A.skip (A.tn (A.seq (A.seq (A.region (A.goA [.p, .ld 0, .cq (i_ (ofR y.la y.lb y.lc)), .p, .p, .o, .p, .p, .ld 0, .cq (b_ (shR l y.hp)), .p, .cl] [(0, vS al l cl), (3, p_ b1), (4, p_ b2), (56, b_ ((decide ((ofR y.la y.lb y.lc) > 1)) && (!(shR l y.hp))))] [b1, b1] (fun κ => κ.call 97 [(.agg #[u_ y.la, u_ y.lb, u_ y.lc])] (i_ (ofR y.la y.lb y.lc)) ∧ ((true && ((decide ((ofR y.la y.lb y.lc) > 1)) == true)) = true → κ.call 145 [vS al l cl, i_ y.hp] (b_ (shR l y.hp))) ∧ True) (by kernel_rfl) ⟨(fun ww ss => rof_spec y.la y.lb y.lc ww), (fun h_ => (fun ww ss => shR_spec al l cl y.hp (by first | assumption | omega) ww ((rd_old r0 (by simp [feet])) ww ss))), trivial⟩ ?_)))))))
            refine A.tn (A.cond (E := (decide ((ofR y.la y.lb y.lc) > 1)) && (!(shR l y.hp))) rfl (fun e5 => ?_) (fun e5 => ?_))
            · skip
              have p5 := e5; try simp only [nrm] at p5
              refine A.seq (A.region (A.goAS [.p, .p, .st 1] [(4, p_ b2)] [blk b1 (encCl y) 98, blk b2 [vS al l cl, i_ 29] 113] [b2] T0 (by kernel_rfl) trivial ?_))
              refine A.tn (A.ret (A.tr ?_))
              have hE_ : addER l y = 29 := by (clear hno; unfold addER; first | (simp_all [fd_ge, fd_neg, gcl]; done) | ((have hi0 : ¬ (i : Int) < 0 := by omega); simp [hi0] at *; simp_all [fd_ge, fd_neg, gcl]; done) | (simp_all [fd_ge, fd_neg, gcl]; omega) | grind [fd_ge, fd_neg, gcl])
              refine A.postK [] [(.agg #[vS al l cl, i_ 29])] (fun aa ww rr ss => ⟨rv_cellN (vs := [vS al l cl, i_ 29]) rr ss rfl (by kernel_rfl) (reads_blk (i := 1) rfl rfl), trivial⟩) () ?_ ?_ (by kernel_rfl)
              · show ((.agg #[vS al l cl, i_ 29]) : Value) = (.agg #[vS al l cl, i_ (addER l y)])
                first | rfl | (rw [hE_]; done) | (rw [List.take_of_length_le (by omega), addLR_ok hok]; done) | (rw [addLR_ok hok]; done)
              · trivial
            · skip
              have p5 := e5; try simp only [nrm] at p5
              refine A.skip (A.tn (A.seq (A.seq (A.region (A.goP [.p, .p, .ld 0] [(0, vS al l cl), (3, p_ b1), (4, p_ b2), (59, vS al l cl), (61, i_ y.hp)] [b1] T0 (by kernel_rfl) trivial ?_)))))
              refine A.cons (A.callT (some 62) [vS al l cl, i_ y.hp] [] ((fun zz => match zz with | (al'3, cl'4) => (vS al'3 (upL (kvl l) y.hp (upD l y.hp)) cl'4))) ((fun zz => match zz with | (al'3, cl'4) => True)) ((fun zz => match zz with | (al'3, cl'4) => [sI al'3 (upL (kvl l) y.hp (upD l y.hp)) cl'4])) (fun zz => match zz with | (al'3, cl'4) => [sI al'3 (upL (kvl l) y.hp (upD l y.hp)) cl'4, blk b1 (encCl y) 98, blk b2 [e_, i_ 0] 113]) (by kernel_rfl) rfl rfl (fun ww ss hh => upR_spec al l cl y.hp (by first | assumption | omega) ww ((rd_old r0 (by simp [feet])) ww ss) hh) (fun _ => rfl) ?_)
              rintro ⟨al'3, cl'4⟩ -
              refine A.goA [.p, .p] [(0, vS al l cl), (3, p_ b1), (4, p_ b2), (64, b_ (decide (((upL (kvl l) y.hp (upD l y.hp)).length : Int) ≥ 16)))] [] T0 (by kernel_rfl) trivial ?_
              refine A.tn (A.cond (E := decide (((upL (kvl l) y.hp (upD l y.hp)).length : Int) ≥ 16)) rfl (fun e7 => ?_) (fun e7 => ?_))
              · skip
                have p7 := of_decide_eq_true e7
                refine A.seq (A.region (A.goAS [.p, .p, .st 2] [(4, p_ b2)] [sI al'3 (upL (kvl l) y.hp (upD l y.hp)) cl'4, blk b1 (encCl y) 98, blk b2 [vS al l cl, i_ 25] 113] [b2] T0 (by kernel_rfl) trivial ?_))
                refine A.tn (A.ret (A.tr ?_))
                have hE_ : addER l y = 25 := by (clear hno; unfold addER; first | (simp_all [fd_ge, fd_neg, gcl]; done) | ((have hi0 : ¬ (i : Int) < 0 := by omega); simp [hi0] at *; simp_all [fd_ge, fd_neg, gcl]; done) | (simp_all [fd_ge, fd_neg, gcl]; omega) | grind [fd_ge, fd_neg, gcl])
                refine A.postK [] [(.agg #[vS al l cl, i_ 25])] (fun aa ww rr ss => ⟨rv_cellN (vs := [vS al l cl, i_ 25]) rr ss rfl (by kernel_rfl) (reads_blk (i := 2) rfl rfl), trivial⟩) () ?_ ?_ (by kernel_rfl)
                · show ((.agg #[vS al l cl, i_ 25]) : Value) = (.agg #[vS al l cl, i_ (addER l y)])
                  first | rfl | (rw [hE_]; done) | (rw [List.take_of_length_le (by omega), addLR_ok hok]; done) | (rw [addLR_ok hok]; done)
                · trivial
              · skip
                have p7 := of_decide_eq_false e7
                refine A.skip (A.tn (A.seq (A.region (A.goP [.p, .ld 1] [(4, p_ b2), (67, vS al l cl), (68, (.agg (encCl y).toArray))] [b1] T0 (by kernel_rfl) trivial ?_))))
                refine A.cons (A.callT (some 69) [vS al l cl, (.agg (encCl y).toArray)] [] ((fun zz => match zz with | (al'6, cl'7) => (vS al'6 (setL y l) cl'7))) ((fun zz => match zz with | (al'6, cl'7) => True)) ((fun zz => match zz with | (al'6, cl'7) => [sCl al'6 (setL y l) cl'7])) (fun zz => match zz with | (al'6, cl'7) => [sCl al'6 (setL y l) cl'7, sI al'3 (upL (kvl l) y.hp (upD l y.hp)) cl'4, blk b1 (encCl y) 98, blk b2 [e_, i_ 0] 113]) (by kernel_rfl) rfl rfl (fun ww ss hh => put_spec al l cl y (by first | assumption | omega) ww ((rd_old r0 (by simp [feet])) ww ss) hh) (fun _ => rfl) ?_)
                rintro ⟨al'6, cl'7⟩ -
                refine A.goAS [.p, .st 3] [(4, p_ b2)] [sCl al'6 (setL y l) cl'7, sI al'3 (upL (kvl l) y.hp (upD l y.hp)) cl'4, blk b1 (encCl y) 98, blk b2 [vS al'6 (setL y l) cl'7, i_ 0] 113] [b2] T0 (by kernel_rfl) trivial ?_
                refine A.tn (A.ret ?_)
                have hE_ : addER l y = 0 := by (clear hno; unfold addER; first | (simp_all [fd_ge, fd_neg, gcl]; done) | ((have hi0 : ¬ (i : Int) < 0 := by omega); simp [hi0] at *; simp_all [fd_ge, fd_neg, gcl]; done) | (simp_all [fd_ge, fd_neg, gcl]; omega) | grind [fd_ge, fd_neg, gcl])
                exact absurd hE_ hno
        · skip
          obtain ⟨i, hi⟩ := Option.ne_none_iff_exists'.1 ho; obtain ⟨x, hx, hm⟩ := fd_yes hi; have hlt := (List.getElem?_eq_some_iff.1 hx).1
          refine A.sub [(0, vS al l cl), (3, p_ b1), (4, p_ b2), (6, c_ i)] (by exact ⟨rfl, rfl, rfl, congrArg (fun z_ => some (i_ z_)) (by rw [hi]; rfl : (oI (fd y.hp l)) = (i : Int)), trivial⟩) ?_
          refine A.region (A.goA [.p, .ld 0, .p, .p, .o, .p, .p, .p, .o, .p, .p, .ix, .p, .rd [b_ x.hl], .cl, .cl] [(0, vS al l cl), (3, p_ b1), (4, p_ b2), (43, b_ ((y.hp != 0) && ((decide ((i : Int) < 0)) || x.hl)))] [b1] (fun κ => (((true && ((y.hp != 0) == true)) && ((decide ((i : Int) < 0)) == false)) = true → κ.ix al l.length (i : Int)) ∧ (((true && ((y.hp != 0) == true)) && ((decide ((i : Int) < 0)) == false)) = true → κ.rd (((at0 al).add (i * 14)).add 2) [b_ x.hl]) ∧ True) (by kernel_rfl) ⟨(fun h_ => (ixOf encCl_len (by decide) (rd_old r0 (by simp [feet])) (by first | omega | (simp; omega) | (simp; done)))), (fun h_ => (reads_at2 (f := 2) (vs := [b_ x.hl]) encCl_len (rd_old r0 (by simp [feet])) hx (by simp) rfl)), trivial⟩ ?_)
          refine A.tn (A.cond (E := (y.hp != 0) && ((decide ((i : Int) < 0)) || x.hl)) rfl (fun e9 => ?_) (fun e9 => ?_))
          · skip
            have p9 := e9; try simp only [nrm] at p9
            refine A.seq (A.region (A.goAS [.p, .p, .st 1] [(4, p_ b2)] [blk b1 (encCl y) 98, blk b2 [vS al l cl, i_ 23] 113] [b2] T0 (by kernel_rfl) trivial ?_))
            refine A.tn (A.ret (A.tr ?_))
            have hE_ : addER l y = 23 := by (clear hno; unfold addER; first | (simp_all [fd_ge, fd_neg, gcl]; done) | ((have hi0 : ¬ (i : Int) < 0 := by omega); simp [hi0] at *; simp_all [fd_ge, fd_neg, gcl]; done) | (simp_all [fd_ge, fd_neg, gcl]; omega) | grind [fd_ge, fd_neg, gcl])
            refine A.postK [] [(.agg #[vS al l cl, i_ 23])] (fun aa ww rr ss => ⟨rv_cellN (vs := [vS al l cl, i_ 23]) rr ss rfl (by kernel_rfl) (reads_blk (i := 1) rfl rfl), trivial⟩) () ?_ ?_ (by kernel_rfl)
            · show ((.agg #[vS al l cl, i_ 23]) : Value) = (.agg #[vS al l cl, i_ (addER l y)])
              first | rfl | (rw [hE_]; done) | (rw [List.take_of_length_le (by omega), addLR_ok hok]; done) | (rw [addLR_ok hok]; done)
            · trivial
          · skip
            have p9 := e9; try simp only [nrm] at p9
            refine A.skip (A.tn (A.seq (A.seq (A.region (A.goA [.p, .ld 0, .cq (i_ (ofR y.la y.lb y.lc)), .p, .p, .o, .p, .p, .ld 0, .cq (b_ (shR l y.hp)), .p, .cl] [(0, vS al l cl), (3, p_ b1), (4, p_ b2), (56, b_ ((decide ((ofR y.la y.lb y.lc) > 1)) && (!(shR l y.hp))))] [b1, b1] (fun κ => κ.call 97 [(.agg #[u_ y.la, u_ y.lb, u_ y.lc])] (i_ (ofR y.la y.lb y.lc)) ∧ ((true && ((decide ((ofR y.la y.lb y.lc) > 1)) == true)) = true → κ.call 145 [vS al l cl, i_ y.hp] (b_ (shR l y.hp))) ∧ True) (by kernel_rfl) ⟨(fun ww ss => rof_spec y.la y.lb y.lc ww), (fun h_ => (fun ww ss => shR_spec al l cl y.hp (by first | assumption | omega) ww ((rd_old r0 (by simp [feet])) ww ss))), trivial⟩ ?_)))))
            refine A.tn (A.cond (E := (decide ((ofR y.la y.lb y.lc) > 1)) && (!(shR l y.hp))) rfl (fun e10 => ?_) (fun e10 => ?_))
            · skip
              have p10 := e10; try simp only [nrm] at p10
              refine A.seq (A.region (A.goAS [.p, .p, .st 1] [(4, p_ b2)] [blk b1 (encCl y) 98, blk b2 [vS al l cl, i_ 29] 113] [b2] T0 (by kernel_rfl) trivial ?_))
              refine A.tn (A.ret (A.tr ?_))
              have hE_ : addER l y = 29 := by (clear hno; unfold addER; first | (simp_all [fd_ge, fd_neg, gcl]; done) | ((have hi0 : ¬ (i : Int) < 0 := by omega); simp [hi0] at *; simp_all [fd_ge, fd_neg, gcl]; done) | (simp_all [fd_ge, fd_neg, gcl]; omega) | grind [fd_ge, fd_neg, gcl])
              refine A.postK [] [(.agg #[vS al l cl, i_ 29])] (fun aa ww rr ss => ⟨rv_cellN (vs := [vS al l cl, i_ 29]) rr ss rfl (by kernel_rfl) (reads_blk (i := 1) rfl rfl), trivial⟩) () ?_ ?_ (by kernel_rfl)
              · show ((.agg #[vS al l cl, i_ 29]) : Value) = (.agg #[vS al l cl, i_ (addER l y)])
                first | rfl | (rw [hE_]; done) | (rw [List.take_of_length_le (by omega), addLR_ok hok]; done) | (rw [addLR_ok hok]; done)
              · trivial
            · skip
              have p10 := e10; try simp only [nrm] at p10
              refine A.skip (A.tn (A.seq (A.seq (A.region (A.goP [.p, .p, .ld 0] [(0, vS al l cl), (3, p_ b1), (4, p_ b2), (59, vS al l cl), (61, i_ y.hp)] [b1] T0 (by kernel_rfl) trivial ?_)))))
              refine A.cons (A.callT (some 62) [vS al l cl, i_ y.hp] [] ((fun zz => match zz with | (al'9, cl'10) => (vS al'9 (upL (kvl l) y.hp (upD l y.hp)) cl'10))) ((fun zz => match zz with | (al'9, cl'10) => True)) ((fun zz => match zz with | (al'9, cl'10) => [sI al'9 (upL (kvl l) y.hp (upD l y.hp)) cl'10])) (fun zz => match zz with | (al'9, cl'10) => [sI al'9 (upL (kvl l) y.hp (upD l y.hp)) cl'10, blk b1 (encCl y) 98, blk b2 [e_, i_ 0] 113]) (by kernel_rfl) rfl rfl (fun ww ss hh => upR_spec al l cl y.hp (by first | assumption | omega) ww ((rd_old r0 (by simp [feet])) ww ss) hh) (fun _ => rfl) ?_)
              rintro ⟨al'9, cl'10⟩ -
              refine A.goA [.p, .p] [(0, vS al l cl), (3, p_ b1), (4, p_ b2), (64, b_ (decide (((upL (kvl l) y.hp (upD l y.hp)).length : Int) ≥ 16)))] [] T0 (by kernel_rfl) trivial ?_
              refine A.tn (A.cond (E := decide (((upL (kvl l) y.hp (upD l y.hp)).length : Int) ≥ 16)) rfl (fun e12 => ?_) (fun e12 => ?_))
              · skip
                have p12 := of_decide_eq_true e12
                refine A.seq (A.region (A.goAS [.p, .p, .st 2] [(4, p_ b2)] [sI al'9 (upL (kvl l) y.hp (upD l y.hp)) cl'10, blk b1 (encCl y) 98, blk b2 [vS al l cl, i_ 25] 113] [b2] T0 (by kernel_rfl) trivial ?_))
                refine A.tn (A.ret (A.tr ?_))
                have hE_ : addER l y = 25 := by (clear hno; unfold addER; first | (simp_all [fd_ge, fd_neg, gcl]; done) | ((have hi0 : ¬ (i : Int) < 0 := by omega); simp [hi0] at *; simp_all [fd_ge, fd_neg, gcl]; done) | (simp_all [fd_ge, fd_neg, gcl]; omega) | grind [fd_ge, fd_neg, gcl])
                refine A.postK [] [(.agg #[vS al l cl, i_ 25])] (fun aa ww rr ss => ⟨rv_cellN (vs := [vS al l cl, i_ 25]) rr ss rfl (by kernel_rfl) (reads_blk (i := 2) rfl rfl), trivial⟩) () ?_ ?_ (by kernel_rfl)
                · show ((.agg #[vS al l cl, i_ 25]) : Value) = (.agg #[vS al l cl, i_ (addER l y)])
                  first | rfl | (rw [hE_]; done) | (rw [List.take_of_length_le (by omega), addLR_ok hok]; done) | (rw [addLR_ok hok]; done)
                · trivial
              · skip
                have p12 := of_decide_eq_false e12
                refine A.skip (A.tn (A.seq (A.region (A.goP [.p, .ld 1] [(4, p_ b2), (67, vS al l cl), (68, (.agg (encCl y).toArray))] [b1] T0 (by kernel_rfl) trivial ?_))))
                refine A.cons (A.callT (some 69) [vS al l cl, (.agg (encCl y).toArray)] [] ((fun zz => match zz with | (al'12, cl'13) => (vS al'12 (setL y l) cl'13))) ((fun zz => match zz with | (al'12, cl'13) => True)) ((fun zz => match zz with | (al'12, cl'13) => [sCl al'12 (setL y l) cl'13])) (fun zz => match zz with | (al'12, cl'13) => [sCl al'12 (setL y l) cl'13, sI al'9 (upL (kvl l) y.hp (upD l y.hp)) cl'10, blk b1 (encCl y) 98, blk b2 [e_, i_ 0] 113]) (by kernel_rfl) rfl rfl (fun ww ss hh => put_spec al l cl y (by first | assumption | omega) ww ((rd_old r0 (by simp [feet])) ww ss) hh) (fun _ => rfl) ?_)
                rintro ⟨al'12, cl'13⟩ -
                refine A.goAS [.p, .st 3] [(4, p_ b2)] [sCl al'12 (setL y l) cl'13, sI al'9 (upL (kvl l) y.hp (upD l y.hp)) cl'10, blk b1 (encCl y) 98, blk b2 [vS al'12 (setL y l) cl'13, i_ 0] 113] [b2] T0 (by kernel_rfl) trivial ?_
                refine A.tn (A.ret ?_)
                have hE_ : addER l y = 0 := by (clear hno; unfold addER; first | (simp_all [fd_ge, fd_neg, gcl]; done) | ((have hi0 : ¬ (i : Int) < 0 := by omega); simp [hi0] at *; simp_all [fd_ge, fd_neg, gcl]; done) | (simp_all [fd_ge, fd_neg, gcl]; omega) | grind [fd_ge, fd_neg, gcl])
                exact absurd hE_ hno

set_option maxHeartbeats 4000000 in
set_option maxRecDepth 100000 in
theorem radd_ok (al : Option Addr) (l : List Cl) (cl : Nat) (y : Cl) (hl : l.length ≤ 100000) (hok : addER l y = 0) (w : World) (r0 : arrAt w al (V.flat encCl l)) (hs : HS w (feet []) [] w) :
    Calls Try.prog 115 #[vS al l cl, (.agg (encCl y).toArray)] w fun e w' => ∃ zz, e = .returned ((fun (zz : (Option Addr) × Nat) => match zz with | (al', cl') => (.agg #[vS al' (addLR l y) cl', i_ 0])) zz) ∧ (fun (zz : (Option Addr) × Nat) => match zz with | (al', cl') => True) zz ∧ Turn [] ((fun (zz : (Option Addr) × Nat) => match zz with | (al', cl') => [sCl al' (addLR l y) cl']) zz) w w' := by
  have hul := fun k => upL_len (kvl l) y.hp k
  refine calls_of (args := [vS al l cl, (.agg (encCl y).toArray)]) (penv [vS al l cl, (.agg (encCl y).toArray)]) (feet []) [] Try.func115 rfl rfl (look_penv _) hs ?_
  refine A.norm [(0, vS al l cl), (1, (.agg (encCl y).toArray))] [] (by exact ⟨rfl, rfl, trivial⟩) rfl ?_
  refine A.seq (A.region (A.goA2 [.al, .al] [0, 3, 4] (fun b1 b2 => [(0, vS al l cl), (3, p_ b1), (4, p_ b2)]) (fun b1 b2 => [blk b1 (encCl y) 98, blk b2 [e_, i_ 0] 113]) (fun b1 b2 => []) (fun _ _ => T0) (fun _ _ => by kernel_rfl) (fun b1 b2 => trivial) ?_))
  intro b1 b2
  refine A.tn (A.seq (A.seq (A.region (A.goA [.ld 0, .cq (i_ (wrongR y)), .p] [(0, vS al l cl), (3, p_ b1), (4, p_ b2), (5, i_ (wrongR y))] [b1] (fun κ => κ.call 144 [(.agg (encCl y).toArray)] (i_ (wrongR y)) ∧ True) (by kernel_rfl) ⟨(fun ww ss => rwrong_spec y ww), trivial⟩ ?_))))
  refine A.tn (A.seq (A.region (A.goA [.p, .p] [(0, vS al l cl), (3, p_ b1), (4, p_ b2), (5, i_ (wrongR y)), (10, b_ ((wrongR y) != 0))] [] T0 (by kernel_rfl) trivial ?_)))
  refine A.tn (A.cond (E := (wrongR y) != 0) rfl (fun e1 => ?_) (fun e1 => ?_))
  · skip
    have p1 := e1; try simp only [nrm] at p1
    refine A.seq (A.region (A.goAS [.p, .p, .p, .st 1] [(4, p_ b2)] [blk b1 (encCl y) 98, blk b2 [vS al l cl, i_ (wrongR y)] 113] [b2] T0 (by kernel_rfl) trivial ?_))
    refine A.tn (A.ret (A.tr ?_))
    have hE_ : addER l y = (wrongR y) := by (clear hok; unfold addER; first | (simp_all [fd_ge, fd_neg, gcl]; done) | ((have hi0 : ¬ (i : Int) < 0 := by omega); simp [hi0] at *; simp_all [fd_ge, fd_neg, gcl]; done) | (simp_all [fd_ge, fd_neg, gcl]; omega) | grind [fd_ge, fd_neg, gcl])
    exact absurd (hE_.symm.trans hok) (by first | decide | assumption)
  · skip
    have p1 := e1; try simp only [nrm] at p1
    refine A.skip (A.tn (A.seq (A.seq (A.region (A.goA [.p, .p, .ld 0, .cq (i_ (oI (fd y.hi l))), .p] [(0, vS al l cl), (3, p_ b1), (4, p_ b2), (18, b_ (decide ((oI (fd y.hi l)) ≥ 0)))] [b1] (fun κ => κ.call 68 [vS al l cl, i_ y.hi] (i_ (oI (fd y.hi l))) ∧ True) (by kernel_rfl) ⟨(fun ww ss => fd_spec al l cl y.hi (by first | assumption | omega) ww ((rd_old r0 (by simp [feet])) ww ss)), trivial⟩ ?_)))))
    refine A.tn (A.cond (E := decide ((oI (fd y.hi l)) ≥ 0)) rfl (fun e2 => ?_) (fun e2 => ?_))
    · skip
      have p2 := of_decide_eq_true e2
      refine A.seq (A.region (A.goAS [.p, .p, .st 1] [(4, p_ b2)] [blk b1 (encCl y) 98, blk b2 [vS al l cl, i_ 8] 113] [b2] T0 (by kernel_rfl) trivial ?_))
      refine A.tn (A.ret (A.tr ?_))
      have hE_ : addER l y = 8 := by (clear hok; unfold addER; first | (simp_all [fd_ge, fd_neg, gcl]; done) | ((have hi0 : ¬ (i : Int) < 0 := by omega); simp [hi0] at *; simp_all [fd_ge, fd_neg, gcl]; done) | (simp_all [fd_ge, fd_neg, gcl]; omega) | grind [fd_ge, fd_neg, gcl])
      exact absurd (hE_.symm.trans hok) (by first | decide | assumption)
    · skip
      have p2 := of_decide_eq_false e2
      refine A.skip (A.tn (A.seq (A.seq (A.region (A.goA [.p, .p, .p] [(0, vS al l cl), (3, p_ b1), (4, p_ b2), (23, b_ ((l.length : Int) == 64))] [] T0 (by kernel_rfl) trivial ?_)))))
      refine A.tn (A.cond (E := (l.length : Int) == 64) rfl (fun e3 => ?_) (fun e3 => ?_))
      · skip
        have p3 := e3; try simp only [nrm] at p3
        refine A.seq (A.region (A.goAS [.p, .p, .st 1] [(4, p_ b2)] [blk b1 (encCl y) 98, blk b2 [vS al l cl, i_ 5] 113] [b2] T0 (by kernel_rfl) trivial ?_))
        refine A.tn (A.ret (A.tr ?_))
        have hE_ : addER l y = 5 := by (clear hok; unfold addER; first | (simp_all [fd_ge, fd_neg, gcl]; done) | ((have hi0 : ¬ (i : Int) < 0 := by omega); simp [hi0] at *; simp_all [fd_ge, fd_neg, gcl]; done) | (simp_all [fd_ge, fd_neg, gcl]; omega) | grind [fd_ge, fd_neg, gcl])
        exact absurd (hE_.symm.trans hok) (by first | decide | assumption)
      · skip
        have p3 := e3; try simp only [nrm] at p3
        refine A.skip (A.tn (A.seq (A.region (A.goA [.p, .p, .ld 0, .cq (i_ (oI (fd y.hp l))), .p] [(0, vS al l cl), (3, p_ b1), (4, p_ b2), (6, i_ (oI (fd y.hp l)))] [b1] (fun κ => κ.call 68 [vS al l cl, i_ y.hp] (i_ (oI (fd y.hp l))) ∧ True) (by kernel_rfl) ⟨(fun ww ss => fd_spec al l cl y.hp (by first | assumption | omega) ww ((rd_old r0 (by simp [feet])) ww ss)), trivial⟩ ?_))))
        refine A.tn (A.seq (A.seq ?_))
        by_cases ho : fd y.hp l = none
        · skip
          have hm := fd_no ho
          refine A.sub [(0, vS al l cl), (3, p_ b1), (4, p_ b2), (6, i_ (-1))] (by exact ⟨rfl, rfl, rfl, congrArg (fun z_ => some (i_ z_)) (by rw [ho]; rfl : (oI (fd y.hp l)) = -1), trivial⟩) ?_
          refine A.region (A.goP [.p, .ld 0, .p, .p] [(0, vS al l cl), (3, p_ b1), (4, p_ b2), (6, i_ (-1)), (33, b_ (y.hp != 0))] [b1] T0 (by kernel_rfl) trivial ?_)
          refine A.bool (y.hp != 0) (fun e4 => ?_) (fun e4 => ?_)
          · skip
            refine A.sub [(0, vS al l cl), (3, p_ b1), (4, p_ b2), (6, i_ (-1)), (33, b_ true)] (by exact ⟨rfl, rfl, rfl, rfl, congrArg (fun z => some (Value.bool z)) e4, trivial⟩) ?_
            refine A.goA [.p, .p, .p, .sk, .sk, .sk, .sk, .sk, .p, .p] [(0, vS al l cl), (3, p_ b1), (4, p_ b2), (43, b_ true)] [] T0 (by kernel_rfl) trivial ?_
            refine A.tn (A.cond_t rfl (A.seq (A.region (A.goAS [.p, .p, .st 1] [(4, p_ b2)] [blk b1 (encCl y) 98, blk b2 [vS al l cl, i_ 23] 113] [b2] T0 (by kernel_rfl) trivial ?_))))
            refine A.tn (A.ret (A.tr ?_))
            have hE_ : addER l y = 23 := by (clear hok; unfold addER; first | (simp_all [fd_ge, fd_neg, gcl]; done) | ((have hi0 : ¬ (i : Int) < 0 := by omega); simp [hi0] at *; simp_all [fd_ge, fd_neg, gcl]; done) | (simp_all [fd_ge, fd_neg, gcl]; omega) | grind [fd_ge, fd_neg, gcl])
            exact absurd (hE_.symm.trans hok) (by first | decide | assumption)
          · skip
            refine A.sub [(0, vS al l cl), (3, p_ b1), (4, p_ b2), (6, i_ (-1)), (33, b_ false)] (by exact ⟨rfl, rfl, rfl, rfl, congrArg (fun z => some (Value.bool z)) e4, trivial⟩) ?_
            refine A.goA [.sk, .sk, .sk, .sk, .sk, .sk, .sk, .sk, .sk, .p] [(0, vS al l cl), (3, p_ b1), (4, p_ b2), (43, b_ false)] [] T0 (by kernel_rfl) trivial ?_
            refine A.tn (A.cond_f rfl (A.skip (A.tn (A.seq (A.seq (A.region (A.goA [.p, .ld 0, .cq (i_ (ofR y.la y.lb y.lc)), .p, .p, .o, .p, .p, .ld 0, .cq (b_ (shR l y.hp)), .p, .cl] [(0, vS al l cl), (3, p_ b1), (4, p_ b2), (56, b_ ((decide ((ofR y.la y.lb y.lc) > 1)) && (!(shR l y.hp))))] [b1, b1] (fun κ => κ.call 97 [(.agg #[u_ y.la, u_ y.lb, u_ y.lc])] (i_ (ofR y.la y.lb y.lc)) ∧ ((true && ((decide ((ofR y.la y.lb y.lc) > 1)) == true)) = true → κ.call 145 [vS al l cl, i_ y.hp] (b_ (shR l y.hp))) ∧ True) (by kernel_rfl) ⟨(fun ww ss => rof_spec y.la y.lb y.lc ww), (fun h_ => (fun ww ss => shR_spec al l cl y.hp (by first | assumption | omega) ww ((rd_old r0 (by simp [feet])) ww ss))), trivial⟩ ?_)))))))
            refine A.tn (A.cond (E := (decide ((ofR y.la y.lb y.lc) > 1)) && (!(shR l y.hp))) rfl (fun e5 => ?_) (fun e5 => ?_))
            · skip
              have p5 := e5; try simp only [nrm] at p5
              refine A.seq (A.region (A.goAS [.p, .p, .st 1] [(4, p_ b2)] [blk b1 (encCl y) 98, blk b2 [vS al l cl, i_ 29] 113] [b2] T0 (by kernel_rfl) trivial ?_))
              refine A.tn (A.ret (A.tr ?_))
              have hE_ : addER l y = 29 := by (clear hok; unfold addER; first | (simp_all [fd_ge, fd_neg, gcl]; done) | ((have hi0 : ¬ (i : Int) < 0 := by omega); simp [hi0] at *; simp_all [fd_ge, fd_neg, gcl]; done) | (simp_all [fd_ge, fd_neg, gcl]; omega) | grind [fd_ge, fd_neg, gcl])
              exact absurd (hE_.symm.trans hok) (by first | decide | assumption)
            · skip
              have p5 := e5; try simp only [nrm] at p5
              refine A.skip (A.tn (A.seq (A.seq (A.region (A.goP [.p, .p, .ld 0] [(0, vS al l cl), (3, p_ b1), (4, p_ b2), (59, vS al l cl), (61, i_ y.hp)] [b1] T0 (by kernel_rfl) trivial ?_)))))
              refine A.cons (A.callT (some 62) [vS al l cl, i_ y.hp] [] ((fun zz => match zz with | (al'3, cl'4) => (vS al'3 (upL (kvl l) y.hp (upD l y.hp)) cl'4))) ((fun zz => match zz with | (al'3, cl'4) => True)) ((fun zz => match zz with | (al'3, cl'4) => [sI al'3 (upL (kvl l) y.hp (upD l y.hp)) cl'4])) (fun zz => match zz with | (al'3, cl'4) => [sI al'3 (upL (kvl l) y.hp (upD l y.hp)) cl'4, blk b1 (encCl y) 98, blk b2 [e_, i_ 0] 113]) (by kernel_rfl) rfl rfl (fun ww ss hh => upR_spec al l cl y.hp (by first | assumption | omega) ww ((rd_old r0 (by simp [feet])) ww ss) hh) (fun _ => rfl) ?_)
              rintro ⟨al'3, cl'4⟩ -
              refine A.goA [.p, .p] [(0, vS al l cl), (3, p_ b1), (4, p_ b2), (64, b_ (decide (((upL (kvl l) y.hp (upD l y.hp)).length : Int) ≥ 16)))] [] T0 (by kernel_rfl) trivial ?_
              refine A.tn (A.cond (E := decide (((upL (kvl l) y.hp (upD l y.hp)).length : Int) ≥ 16)) rfl (fun e7 => ?_) (fun e7 => ?_))
              · skip
                have p7 := of_decide_eq_true e7
                refine A.seq (A.region (A.goAS [.p, .p, .st 2] [(4, p_ b2)] [sI al'3 (upL (kvl l) y.hp (upD l y.hp)) cl'4, blk b1 (encCl y) 98, blk b2 [vS al l cl, i_ 25] 113] [b2] T0 (by kernel_rfl) trivial ?_))
                refine A.tn (A.ret (A.tr ?_))
                have hE_ : addER l y = 25 := by (clear hok; unfold addER; first | (simp_all [fd_ge, fd_neg, gcl]; done) | ((have hi0 : ¬ (i : Int) < 0 := by omega); simp [hi0] at *; simp_all [fd_ge, fd_neg, gcl]; done) | (simp_all [fd_ge, fd_neg, gcl]; omega) | grind [fd_ge, fd_neg, gcl])
                exact absurd (hE_.symm.trans hok) (by first | decide | assumption)
              · skip
                have p7 := of_decide_eq_false e7
                refine A.skip (A.tn (A.seq (A.region (A.goP [.p, .ld 1] [(4, p_ b2), (67, vS al l cl), (68, (.agg (encCl y).toArray))] [b1] T0 (by kernel_rfl) trivial ?_))))
                refine A.cons (A.callT (some 69) [vS al l cl, (.agg (encCl y).toArray)] [] ((fun zz => match zz with | (al'6, cl'7) => (vS al'6 (setL y l) cl'7))) ((fun zz => match zz with | (al'6, cl'7) => True)) ((fun zz => match zz with | (al'6, cl'7) => [sCl al'6 (setL y l) cl'7])) (fun zz => match zz with | (al'6, cl'7) => [sCl al'6 (setL y l) cl'7, sI al'3 (upL (kvl l) y.hp (upD l y.hp)) cl'4, blk b1 (encCl y) 98, blk b2 [e_, i_ 0] 113]) (by kernel_rfl) rfl rfl (fun ww ss hh => put_spec al l cl y (by first | assumption | omega) ww ((rd_old r0 (by simp [feet])) ww ss) hh) (fun _ => rfl) ?_)
                rintro ⟨al'6, cl'7⟩ -
                refine A.goAS [.p, .st 3] [(4, p_ b2)] [sCl al'6 (setL y l) cl'7, sI al'3 (upL (kvl l) y.hp (upD l y.hp)) cl'4, blk b1 (encCl y) 98, blk b2 [vS al'6 (setL y l) cl'7, i_ 0] 113] [b2] T0 (by kernel_rfl) trivial ?_
                refine A.tn (A.ret ?_)
                have hE_ : addER l y = 0 := by (clear hok; unfold addER; first | (simp_all [fd_ge, fd_neg, gcl]; done) | ((have hi0 : ¬ (i : Int) < 0 := by omega); simp [hi0] at *; simp_all [fd_ge, fd_neg, gcl]; done) | (simp_all [fd_ge, fd_neg, gcl]; omega) | grind [fd_ge, fd_neg, gcl])
                refine A.setH [sCl al'6 (addLR l y) cl'7, sI al'3 (upL (kvl l) y.hp (upD l y.hp)) cl'4, blk b1 (encCl y) 98, blk b2 [vS al'6 (setL y l) cl'7, i_ 0] 113] (cc (slC (by first | rfl | exact (addLR_ok hok).symm : (setL y l) = (addLR l y))) rfl) ?_
                refine A.postK [0] [(.agg #[vS al'6 (setL y l) cl'7, i_ 0])] (fun aa ww rr ss => ⟨rv_cellN (vs := [vS al'6 (setL y l) cl'7, i_ 0]) rr ss rfl (by kernel_rfl) (reads_blk (i := 3) rfl rfl), trivial⟩) (al'6, cl'7) ?_ ?_ (by kernel_rfl)
                · show ((.agg #[vS al'6 (setL y l) cl'7, i_ 0]) : Value) = (.agg #[vS al'6 (addLR l y) cl'7, i_ 0])
                  first | rfl | (rw [hE_]; done) | (rw [List.take_of_length_le (by omega), addLR_ok hok]; done) | (rw [addLR_ok hok]; done)
                · trivial
        · skip
          obtain ⟨i, hi⟩ := Option.ne_none_iff_exists'.1 ho; obtain ⟨x, hx, hm⟩ := fd_yes hi; have hlt := (List.getElem?_eq_some_iff.1 hx).1
          refine A.sub [(0, vS al l cl), (3, p_ b1), (4, p_ b2), (6, c_ i)] (by exact ⟨rfl, rfl, rfl, congrArg (fun z_ => some (i_ z_)) (by rw [hi]; rfl : (oI (fd y.hp l)) = (i : Int)), trivial⟩) ?_
          refine A.region (A.goA [.p, .ld 0, .p, .p, .o, .p, .p, .p, .o, .p, .p, .ix, .p, .rd [b_ x.hl], .cl, .cl] [(0, vS al l cl), (3, p_ b1), (4, p_ b2), (43, b_ ((y.hp != 0) && ((decide ((i : Int) < 0)) || x.hl)))] [b1] (fun κ => (((true && ((y.hp != 0) == true)) && ((decide ((i : Int) < 0)) == false)) = true → κ.ix al l.length (i : Int)) ∧ (((true && ((y.hp != 0) == true)) && ((decide ((i : Int) < 0)) == false)) = true → κ.rd (((at0 al).add (i * 14)).add 2) [b_ x.hl]) ∧ True) (by kernel_rfl) ⟨(fun h_ => (ixOf encCl_len (by decide) (rd_old r0 (by simp [feet])) (by first | omega | (simp; omega) | (simp; done)))), (fun h_ => (reads_at2 (f := 2) (vs := [b_ x.hl]) encCl_len (rd_old r0 (by simp [feet])) hx (by simp) rfl)), trivial⟩ ?_)
          refine A.tn (A.cond (E := (y.hp != 0) && ((decide ((i : Int) < 0)) || x.hl)) rfl (fun e9 => ?_) (fun e9 => ?_))
          · skip
            have p9 := e9; try simp only [nrm] at p9
            refine A.seq (A.region (A.goAS [.p, .p, .st 1] [(4, p_ b2)] [blk b1 (encCl y) 98, blk b2 [vS al l cl, i_ 23] 113] [b2] T0 (by kernel_rfl) trivial ?_))
            refine A.tn (A.ret (A.tr ?_))
            have hE_ : addER l y = 23 := by (clear hok; unfold addER; first | (simp_all [fd_ge, fd_neg, gcl]; done) | ((have hi0 : ¬ (i : Int) < 0 := by omega); simp [hi0] at *; simp_all [fd_ge, fd_neg, gcl]; done) | (simp_all [fd_ge, fd_neg, gcl]; omega) | grind [fd_ge, fd_neg, gcl])
            exact absurd (hE_.symm.trans hok) (by first | decide | assumption)
          · skip
            have p9 := e9; try simp only [nrm] at p9
            refine A.skip (A.tn (A.seq (A.seq (A.region (A.goA [.p, .ld 0, .cq (i_ (ofR y.la y.lb y.lc)), .p, .p, .o, .p, .p, .ld 0, .cq (b_ (shR l y.hp)), .p, .cl] [(0, vS al l cl), (3, p_ b1), (4, p_ b2), (56, b_ ((decide ((ofR y.la y.lb y.lc) > 1)) && (!(shR l y.hp))))] [b1, b1] (fun κ => κ.call 97 [(.agg #[u_ y.la, u_ y.lb, u_ y.lc])] (i_ (ofR y.la y.lb y.lc)) ∧ ((true && ((decide ((ofR y.la y.lb y.lc) > 1)) == true)) = true → κ.call 145 [vS al l cl, i_ y.hp] (b_ (shR l y.hp))) ∧ True) (by kernel_rfl) ⟨(fun ww ss => rof_spec y.la y.lb y.lc ww), (fun h_ => (fun ww ss => shR_spec al l cl y.hp (by first | assumption | omega) ww ((rd_old r0 (by simp [feet])) ww ss))), trivial⟩ ?_)))))
            refine A.tn (A.cond (E := (decide ((ofR y.la y.lb y.lc) > 1)) && (!(shR l y.hp))) rfl (fun e10 => ?_) (fun e10 => ?_))
            · skip
              have p10 := e10; try simp only [nrm] at p10
              refine A.seq (A.region (A.goAS [.p, .p, .st 1] [(4, p_ b2)] [blk b1 (encCl y) 98, blk b2 [vS al l cl, i_ 29] 113] [b2] T0 (by kernel_rfl) trivial ?_))
              refine A.tn (A.ret (A.tr ?_))
              have hE_ : addER l y = 29 := by (clear hok; unfold addER; first | (simp_all [fd_ge, fd_neg, gcl]; done) | ((have hi0 : ¬ (i : Int) < 0 := by omega); simp [hi0] at *; simp_all [fd_ge, fd_neg, gcl]; done) | (simp_all [fd_ge, fd_neg, gcl]; omega) | grind [fd_ge, fd_neg, gcl])
              exact absurd (hE_.symm.trans hok) (by first | decide | assumption)
            · skip
              have p10 := e10; try simp only [nrm] at p10
              refine A.skip (A.tn (A.seq (A.seq (A.region (A.goP [.p, .p, .ld 0] [(0, vS al l cl), (3, p_ b1), (4, p_ b2), (59, vS al l cl), (61, i_ y.hp)] [b1] T0 (by kernel_rfl) trivial ?_)))))
              refine A.cons (A.callT (some 62) [vS al l cl, i_ y.hp] [] ((fun zz => match zz with | (al'9, cl'10) => (vS al'9 (upL (kvl l) y.hp (upD l y.hp)) cl'10))) ((fun zz => match zz with | (al'9, cl'10) => True)) ((fun zz => match zz with | (al'9, cl'10) => [sI al'9 (upL (kvl l) y.hp (upD l y.hp)) cl'10])) (fun zz => match zz with | (al'9, cl'10) => [sI al'9 (upL (kvl l) y.hp (upD l y.hp)) cl'10, blk b1 (encCl y) 98, blk b2 [e_, i_ 0] 113]) (by kernel_rfl) rfl rfl (fun ww ss hh => upR_spec al l cl y.hp (by first | assumption | omega) ww ((rd_old r0 (by simp [feet])) ww ss) hh) (fun _ => rfl) ?_)
              rintro ⟨al'9, cl'10⟩ -
              refine A.goA [.p, .p] [(0, vS al l cl), (3, p_ b1), (4, p_ b2), (64, b_ (decide (((upL (kvl l) y.hp (upD l y.hp)).length : Int) ≥ 16)))] [] T0 (by kernel_rfl) trivial ?_
              refine A.tn (A.cond (E := decide (((upL (kvl l) y.hp (upD l y.hp)).length : Int) ≥ 16)) rfl (fun e12 => ?_) (fun e12 => ?_))
              · skip
                have p12 := of_decide_eq_true e12
                refine A.seq (A.region (A.goAS [.p, .p, .st 2] [(4, p_ b2)] [sI al'9 (upL (kvl l) y.hp (upD l y.hp)) cl'10, blk b1 (encCl y) 98, blk b2 [vS al l cl, i_ 25] 113] [b2] T0 (by kernel_rfl) trivial ?_))
                refine A.tn (A.ret (A.tr ?_))
                have hE_ : addER l y = 25 := by (clear hok; unfold addER; first | (simp_all [fd_ge, fd_neg, gcl]; done) | ((have hi0 : ¬ (i : Int) < 0 := by omega); simp [hi0] at *; simp_all [fd_ge, fd_neg, gcl]; done) | (simp_all [fd_ge, fd_neg, gcl]; omega) | grind [fd_ge, fd_neg, gcl])
                exact absurd (hE_.symm.trans hok) (by first | decide | assumption)
              · skip
                have p12 := of_decide_eq_false e12
                refine A.skip (A.tn (A.seq (A.region (A.goP [.p, .ld 1] [(4, p_ b2), (67, vS al l cl), (68, (.agg (encCl y).toArray))] [b1] T0 (by kernel_rfl) trivial ?_))))
                refine A.cons (A.callT (some 69) [vS al l cl, (.agg (encCl y).toArray)] [] ((fun zz => match zz with | (al'12, cl'13) => (vS al'12 (setL y l) cl'13))) ((fun zz => match zz with | (al'12, cl'13) => True)) ((fun zz => match zz with | (al'12, cl'13) => [sCl al'12 (setL y l) cl'13])) (fun zz => match zz with | (al'12, cl'13) => [sCl al'12 (setL y l) cl'13, sI al'9 (upL (kvl l) y.hp (upD l y.hp)) cl'10, blk b1 (encCl y) 98, blk b2 [e_, i_ 0] 113]) (by kernel_rfl) rfl rfl (fun ww ss hh => put_spec al l cl y (by first | assumption | omega) ww ((rd_old r0 (by simp [feet])) ww ss) hh) (fun _ => rfl) ?_)
                rintro ⟨al'12, cl'13⟩ -
                refine A.goAS [.p, .st 3] [(4, p_ b2)] [sCl al'12 (setL y l) cl'13, sI al'9 (upL (kvl l) y.hp (upD l y.hp)) cl'10, blk b1 (encCl y) 98, blk b2 [vS al'12 (setL y l) cl'13, i_ 0] 113] [b2] T0 (by kernel_rfl) trivial ?_
                refine A.tn (A.ret ?_)
                have hE_ : addER l y = 0 := by (clear hok; unfold addER; first | (simp_all [fd_ge, fd_neg, gcl]; done) | ((have hi0 : ¬ (i : Int) < 0 := by omega); simp [hi0] at *; simp_all [fd_ge, fd_neg, gcl]; done) | (simp_all [fd_ge, fd_neg, gcl]; omega) | grind [fd_ge, fd_neg, gcl])
                refine A.setH [sCl al'12 (addLR l y) cl'13, sI al'9 (upL (kvl l) y.hp (upD l y.hp)) cl'10, blk b1 (encCl y) 98, blk b2 [vS al'12 (setL y l) cl'13, i_ 0] 113] (cc (slC (by first | rfl | exact (addLR_ok hok).symm : (setL y l) = (addLR l y))) rfl) ?_
                refine A.postK [0] [(.agg #[vS al'12 (setL y l) cl'13, i_ 0])] (fun aa ww rr ss => ⟨rv_cellN (vs := [vS al'12 (setL y l) cl'13, i_ 0]) rr ss rfl (by kernel_rfl) (reads_blk (i := 3) rfl rfl), trivial⟩) (al'12, cl'13) ?_ ?_ (by kernel_rfl)
                · show ((.agg #[vS al'12 (setL y l) cl'13, i_ 0]) : Value) = (.agg #[vS al'12 (addLR l y) cl'13, i_ 0])
                  first | rfl | (rw [hE_]; done) | (rw [List.take_of_length_le (by omega), addLR_ok hok]; done) | (rw [addLR_ok hok]; done)
                · trivial

set_option maxHeartbeats 4000000 in
set_option maxRecDepth 100000 in
theorem rdel_no (al : Option Addr) (l : List Cl) (cl : Nat) (a : Int) (hl : l.length ≤ 100000) (hno : delER l a ≠ 0) (w : World) (r0 : arrAt w al (V.flat encCl l)) (hs : HS w (feet []) [] w) :
    Calls Try.prog 116 #[vS al l cl, i_ a] w fun e w' => ∃ zz, e = .returned ((fun (zz : Unit) => (.agg #[vS al l cl, i_ (delER l a)])) zz) ∧ (fun (zz : Unit) => True) zz ∧ Turn [] ((fun (zz : Unit) => []) zz) w w' := by
  refine calls_of (args := [vS al l cl, i_ a]) (penv [vS al l cl, i_ a]) (feet []) [] Try.func116 rfl rfl (look_penv _) hs ?_
  refine A.norm [(0, vS al l cl), (1, i_ a)] [] (by exact ⟨rfl, rfl, trivial⟩) rfl ?_
  refine A.seq (A.region (A.goA1 [.al] [0, 1, 4] (fun b1 => [(0, vS al l cl), (1, i_ a), (4, p_ b1)]) (fun b1 => [blk b1 [e_, i_ 0] 113]) (fun b1 => []) (fun _ => T0) (fun _ => by kernel_rfl) (fun b1 => trivial) ?_))
  intro b1
  refine A.tn (A.seq (A.seq (A.region (A.goA [.p, .p, .cq (i_ (oI (fd a l))), .p] [(0, vS al l cl), (1, i_ a), (4, p_ b1), (11, b_ (decide ((oI (fd a l)) < 0)))] [] (fun κ => κ.call 68 [vS al l cl, i_ a] (i_ (oI (fd a l))) ∧ True) (by kernel_rfl) ⟨(fun ww ss => fd_spec al l cl a (by first | assumption | omega) ww ((rd_old r0 (by simp [feet])) ww ss)), trivial⟩ ?_))))
  refine A.tn (A.cond (E := decide ((oI (fd a l)) < 0)) rfl (fun e1 => ?_) (fun e1 => ?_))
  · skip
    have p1 := of_decide_eq_true e1
    refine A.seq (A.region (A.goAS [.p, .p, .st 0] [(4, p_ b1)] [blk b1 [vS al l cl, i_ 6] 113] [b1] T0 (by kernel_rfl) trivial ?_))
    refine A.tn (A.ret (A.tr ?_))
    have hE_ : delER l a = 6 := by (clear hno; unfold delER; first | (simp_all [fd_ge, fd_neg, gcl]; done) | ((have hi0 : ¬ (i : Int) < 0 := by omega); simp [hi0] at *; simp_all [fd_ge, fd_neg, gcl]; done) | (simp_all [fd_ge, fd_neg, gcl]; omega) | grind [fd_ge, fd_neg, gcl])
    refine A.postK [] [(.agg #[vS al l cl, i_ 6])] (fun aa ww rr ss => ⟨rv_cellN (vs := [vS al l cl, i_ 6]) rr ss rfl (by kernel_rfl) (reads_blk (i := 0) rfl rfl), trivial⟩) () ?_ ?_ (by kernel_rfl)
    · show ((.agg #[vS al l cl, i_ 6]) : Value) = (.agg #[vS al l cl, i_ (delER l a)])
      first | rfl | (rw [hE_]; done) | (rw [List.take_of_length_le (by omega), delLR_ok hok]; done) | (rw [delLR_ok hok]; done)
    · trivial
  · skip
    have p1 := of_decide_eq_false e1
    refine A.skip (A.tn (A.seq (A.seq (A.region (A.goP [.p, .p] [(0, vS al l cl), (1, i_ a), (4, p_ b1), (14, vS al l cl), (15, i_ a)] [] T0 (by kernel_rfl) trivial ?_)))))
    refine A.cons (A.callT (some 16) [vS al l cl, i_ a] [] ((fun zz => match zz with | (al'2, cl'3) => (vS al'2 (chR l a) cl'3))) ((fun zz => match zz with | (al'2, cl'3) => True)) ((fun zz => match zz with | (al'2, cl'3) => [sI al'2 (chR l a) cl'3])) (fun zz => match zz with | (al'2, cl'3) => [sI al'2 (chR l a) cl'3, blk b1 [e_, i_ 0] 113]) (by kernel_rfl) rfl rfl (fun ww ss hh => chR_spec al l cl a (by first | assumption | omega) ww ((rd_old r0 (by simp [feet])) ww ss) hh) (fun _ => rfl) ?_)
    rintro ⟨al'2, cl'3⟩ -
    refine A.goA [.p, .p] [(0, vS al l cl), (1, i_ a), (4, p_ b1), (18, b_ (decide (((chR l a).length : Int) > 0)))] [] T0 (by kernel_rfl) trivial ?_
    refine A.tn (A.cond (E := decide (((chR l a).length : Int) > 0)) rfl (fun e3 => ?_) (fun e3 => ?_))
    · skip
      have p3 := of_decide_eq_true e3
      refine A.seq (A.region (A.goAS [.p, .p, .st 1] [(4, p_ b1)] [sI al'2 (chR l a) cl'3, blk b1 [vS al l cl, i_ 23] 113] [b1] T0 (by kernel_rfl) trivial ?_))
      refine A.tn (A.ret (A.tr ?_))
      have hE_ : delER l a = 23 := by (clear hno; unfold delER; first | (simp_all [fd_ge, fd_neg, gcl]; done) | ((have hi0 : ¬ (i : Int) < 0 := by omega); simp [hi0] at *; simp_all [fd_ge, fd_neg, gcl]; done) | (simp_all [fd_ge, fd_neg, gcl]; omega) | grind [fd_ge, fd_neg, gcl])
      refine A.postK [] [(.agg #[vS al l cl, i_ 23])] (fun aa ww rr ss => ⟨rv_cellN (vs := [vS al l cl, i_ 23]) rr ss rfl (by kernel_rfl) (reads_blk (i := 1) rfl rfl), trivial⟩) () ?_ ?_ (by kernel_rfl)
      · show ((.agg #[vS al l cl, i_ 23]) : Value) = (.agg #[vS al l cl, i_ (delER l a)])
        first | rfl | (rw [hE_]; done) | (rw [List.take_of_length_le (by omega), delLR_ok hok]; done) | (rw [delLR_ok hok]; done)
      · trivial
    · skip
      have p3 := of_decide_eq_false e3
      refine A.skip (A.tn (A.seq (A.region (A.goA [.p] [(0, vS al l cl), (1, i_ a), (4, p_ b1), (5, e_)] [] T0 (by kernel_rfl) trivial ?_))))
      refine A.tn (A.seq (A.seq (A.region (A.goA [.p, .p, .p] [(1, i_ a), (4, p_ b1), (5, e_), (21, vS al l cl), (22, c_ l.length), (23, i_ 0)] [] T0 (by kernel_rfl) trivial ?_))))
      refine A.tn (A.block (A.ownNil 98 14 [sI al'2 (chR l a) cl'3, blk b1 [e_, i_ 0] 113, sCl none ([] : List Cl) 0] rfl ?_))
      refine A.setH [sI al'2 (chR l a) cl'3, blk b1 [e_, i_ 0] 113, sCl none (wo a (l.take 0)) 0] (cc rfl (cc rfl (cc (slC (by first | (rw [take_snoc (by assumption), wo_snoc]; simp_all; done) | (simp [wo]; done) | (rw [List.take_of_length_le (by omega)]; exact (delLR_ok hok).symm) | (rw [List.take_of_length_le (by omega)]) | rfl | exact (delLR_ok hok).symm : ([] : List Cl) = (wo a (l.take 0)))) rfl))) ?_
      refine A.sub [(1, i_ a), (4, p_ b1), (5, vS none (wo a (l.take 0)) 0), (21, vS al l cl), (22, c_ l.length), (23, i_ 0)] (by exact ⟨rfl, rfl, congrArg (fun z_ : List Cl => some (Value.slice none z_.length 0)) (by first | (rw [take_snoc (by assumption), wo_snoc]; simp_all; done) | (simp [wo]; done) | (rw [List.take_of_length_le (by omega)]; exact (delLR_ok hok).symm) | (rw [List.take_of_length_le (by omega)]) | rfl | exact (delLR_ok hok).symm : ([] : List Cl) = (wo a (l.take 0))), rfl, rfl, rfl, trivial⟩) ?_
      refine A.loop (fun (zz : Nat × (Option Addr) × Nat) => match zz with | (k, ao, co) => [(1, i_ a), (4, p_ b1), (21, vS al l cl), (22, c_ l.length), (23, c_ k), (5, vS ao (wo a (l.take k)) co)]) (fun (zz : Nat × (Option Addr) × Nat) => match zz with | (k, ao, co) => [sCl ao (wo a (l.take k)) co, sI al'2 (chR l a) cl'3, blk b1 [e_, i_ 0] 113]) (fun (zz : Nat × (Option Addr) × Nat) => match zz with | (k, ao, co) => (k ≤ l.length)) (fun (zz : Nat × (Option Addr) × Nat) => match zz with | (k, ao, co) => l.length - k) (0, none, 0) (by first | assumption | omega | (simp_all; done) | (simp_all; omega) | grind) ?_ ?_
      · exact A.hereK [2, 0, 0] (by exact ⟨rfl, rfl, rfl, rfl, rfl, rfl, trivial⟩) (by kernel_rfl)
      · rintro ⟨k, ao, co⟩ hk
        have hk : k ≤ l.length := hk
        have hdl : (wo a (l.take k)).length ≤ k := Nat.le_trans (wo_len _ _) (by simp; omega)
        refine A.norm [(1, i_ a), (4, p_ b1), (21, vS al l cl), (22, c_ l.length), (23, c_ k), (5, vS ao (wo a (l.take k)) co)] [sCl ao (wo a (l.take k)) co, sI al'2 (chR l a) cl'3, blk b1 [e_, i_ 0] 113] (by exact ⟨rfl, rfl, rfl, rfl, rfl, rfl, trivial⟩) rfl ?_
        refine A.seq (A.region (A.goA [.p] [(1, i_ a), (4, p_ b1), (21, vS al l cl), (22, c_ l.length), (23, c_ k), (5, vS ao (wo a (l.take k)) co), (24, b_ (decide ((k : Int) < (l.length : Int))))] [] T0 (by kernel_rfl) trivial ?_))
        refine A.tn (A.seq (A.cond (E := decide ((k : Int) < (l.length : Int))) rfl (fun e4 => ?_) (fun e4 => ?_)))
        · skip
          have p4 := of_decide_eq_true e4
          refine A.skip (A.tn (A.seq (A.block (A.seq (A.region (A.goP [.ix] [(1, i_ a), (4, p_ b1), (21, vS al l cl), (22, c_ l.length), (23, c_ k), (5, vS ao (wo a (l.take k)) co), (25, (.pointer (some ((at0 al).add (k * 14)))))] [] (fun κ => κ.ix al l.length (k : Int) ∧ True) (by kernel_rfl) ⟨(ixOf encCl_len (by decide) (rd_old r0 (by simp [feet])) (by first | omega | (simp; omega) | (simp; done))), trivial⟩ ?_))))))
          obtain ⟨x6, hx6⟩ : ∃ x, (l)[k]? = some x := ⟨_, List.getElem?_eq_getElem (by omega)⟩
          refine A.goA1 [.rd (encCl x6), .al, .st 3] [1, 4, 21, 22, 23, 5, 7] (fun b7 => [(1, i_ a), (4, p_ b1), (21, vS al l cl), (22, c_ l.length), (23, c_ k), (5, vS ao (wo a (l.take k)) co), (7, p_ b7)]) (fun b7 => [sCl ao (wo a (l.take k)) co, sI al'2 (chR l a) cl'3, blk b1 [e_, i_ 0] 113, blk b7 (encCl x6) 98]) (fun b7 => [b7]) (fun _ => (fun κ => κ.rd ((at0 al).add (k * 14)) (encCl x6) ∧ True)) (fun _ => by kernel_rfl) (fun b7 => ⟨(reads_at0 (vs := (encCl x6)) encCl_len (rd_old r0 (by simp [feet])) hx6 (Nat.le_of_ble_eq_true rfl) rfl), trivial⟩) ?_
          intro b7
          refine A.tn (A.seq (A.region (A.goA [.p, .ld 3, .p, .p] [(1, i_ a), (4, p_ b1), (21, vS al l cl), (22, c_ l.length), (23, c_ k), (5, vS ao (wo a (l.take k)) co), (7, p_ b7), (30, b_ (x6.hi != a))] [b7] T0 (by kernel_rfl) trivial ?_)))
          refine A.tn (A.cond (E := x6.hi != a) rfl (fun e5 => ?_) (fun e5 => ?_))
          · skip
            have p5 := e5; try simp only [nrm] at p5
            refine A.region (A.goP [.p, .ld 3] [(1, i_ a), (4, p_ b1), (21, vS al l cl), (22, c_ l.length), (23, c_ k), (5, vS ao (wo a (l.take k)) co), (31, vS ao (wo a (l.take k)) co), (32, (.agg (encCl x6).toArray))] [b7] T0 (by kernel_rfl) trivial ?_)
            refine A.cons (A.buildSlice 33 (e := 98) (encCl x6) (by kernel_rfl) rfl (fun _ => by kernel_rfl) (fun b8 => [sCl ao (wo a (l.take k)) co, sI al'2 (chR l a) cl'3, blk b1 [e_, i_ 0] 113, blk b7 (encCl x6) 98, blk b8 (encCl x6) 98]) (fun _ => rfl) ?_)
            intro b8
            refine A.cons (A.appendC (enc := encCl) (xs := (wo a (l.take k))) ([x6]) 0 34 (e := 98) (z := (.agg #[i_ 0, i_ 0, b_ false, u_ 0, u_ 0, u_ 0, u_ 0, u_ 0, u_ 0, u_ 0, u_ 0, u_ 0, i_ 0, i_ 0])) (sz := 14) (by_ := 112) (by kernel_rfl) rfl rfl rfl (by kernel_rfl) (by kernel_rfl) (by rfl) (by decide) encCl_len encCl_one rfl (rd_blk (i := 4) rfl) (by simp; omega) (fun A9 c9 => [sCl A9 ((wo a (l.take k)) ++ ([x6])) c9, sI al'2 (chR l a) cl'3, blk b1 [e_, i_ 0] 113, blk b7 (encCl x6) 98, blk b8 (encCl x6) 98]) (fun _ _ => rfl) ?_)
            intro A9 c9
            refine A.goA [.p] [(1, i_ a), (4, p_ b1), (21, vS al l cl), (22, c_ l.length), (23, c_ k), (5, vS A9 ((wo a (l.take k)) ++ ([x6])) c9)] [] T0 (by kernel_rfl) trivial ?_
            refine A.bn (A.tn (A.region (A.goA [.w ((k : Int) + 1), .p] [(1, i_ a), (4, p_ b1), (21, vS al l cl), (22, c_ l.length), (23, i_ ((k : Int) + 1)), (5, vS A9 ((wo a (l.take k)) ++ ([x6])) c9)] [] (fun κ => (IntKind.i64.wrap ((k : Int) + 1) = ((k : Int) + 1)) ∧ True) (by kernel_rfl) ⟨(wrap_i64 (e := (k : Int) + 1) (by constructor <;> omega)), trivial⟩ ?_)))
            refine A.tn (A.setH [sCl A9 (wo a (l.take (k + 1))) c9, sI al'2 (chR l a) cl'3, blk b1 [e_, i_ 0] 113, blk b7 (encCl x6) 98, blk b8 (encCl x6) 98] (cc (slC (by first | (rw [take_snoc (by assumption), wo_snoc]; simp_all; done) | (simp [wo]; done) | (rw [List.take_of_length_le (by omega)]; exact (delLR_ok hok).symm) | (rw [List.take_of_length_le (by omega)]) | rfl | exact (delLR_ok hok).symm : (wo a (l.take k)) ++ ([x6]) = (wo a (l.take (k + 1))))) rfl) ?_)
            refine A.sub [(1, i_ a), (4, p_ b1), (21, vS al l cl), (22, c_ l.length), (23, i_ ((k : Int) + 1)), (5, vS A9 (wo a (l.take (k + 1))) c9)] (by exact ⟨rfl, rfl, rfl, rfl, rfl, congrArg (fun z_ : List Cl => some (Value.slice A9 z_.length c9)) (by first | (rw [take_snoc (by assumption), wo_snoc]; simp_all; done) | (simp [wo]; done) | (rw [List.take_of_length_le (by omega)]; exact (delLR_ok hok).symm) | (rw [List.take_of_length_le (by omega)]) | rfl | exact (delLR_ok hok).symm : (wo a (l.take k)) ++ ([x6]) = (wo a (l.take (k + 1)))), trivial⟩) ?_
            refine A.next (k + 1, A9, c9) (by first | assumption | omega | (simp_all; done) | (simp_all; omega) | grind) (by first | omega | (simp; omega) | (simp_all; omega)) ?_
            exact A.hereK [0, 0, 0] (by exact ⟨rfl, rfl, rfl, rfl, rfl, rfl, trivial⟩) (by kernel_rfl)
          · skip
            have p5 := e5; try simp only [nrm] at p5
            refine A.skip (A.bn (A.tn (A.region (A.goA [.w ((k : Int) + 1), .p] [(1, i_ a), (4, p_ b1), (21, vS al l cl), (22, c_ l.length), (23, i_ ((k : Int) + 1)), (5, vS ao (wo a (l.take k)) co)] [] (fun κ => (IntKind.i64.wrap ((k : Int) + 1) = ((k : Int) + 1)) ∧ True) (by kernel_rfl) ⟨(wrap_i64 (e := (k : Int) + 1) (by constructor <;> omega)), trivial⟩ ?_))))
            refine A.tn (A.setH [sCl ao (wo a (l.take (k + 1))) co, sI al'2 (chR l a) cl'3, blk b1 [e_, i_ 0] 113, blk b7 (encCl x6) 98] (cc (slC (by first | (rw [take_snoc (by assumption), wo_snoc]; simp_all; done) | (simp [wo]; done) | (rw [List.take_of_length_le (by omega)]; exact (delLR_ok hok).symm) | (rw [List.take_of_length_le (by omega)]) | rfl | exact (delLR_ok hok).symm : (wo a (l.take k)) = (wo a (l.take (k + 1))))) rfl) ?_)
            refine A.sub [(1, i_ a), (4, p_ b1), (21, vS al l cl), (22, c_ l.length), (23, i_ ((k : Int) + 1)), (5, vS ao (wo a (l.take (k + 1))) co)] (by exact ⟨rfl, rfl, rfl, rfl, rfl, congrArg (fun z_ : List Cl => some (Value.slice ao z_.length co)) (by first | (rw [take_snoc (by assumption), wo_snoc]; simp_all; done) | (simp [wo]; done) | (rw [List.take_of_length_le (by omega)]; exact (delLR_ok hok).symm) | (rw [List.take_of_length_le (by omega)]) | rfl | exact (delLR_ok hok).symm : (wo a (l.take k)) = (wo a (l.take (k + 1)))), trivial⟩) ?_
            refine A.next (k + 1, ao, co) (by first | assumption | omega | (simp_all; done) | (simp_all; omega) | grind) (by first | omega | (simp; omega) | (simp_all; omega)) ?_
            exact A.hereK [0, 0, 0] (by exact ⟨rfl, rfl, rfl, rfl, rfl, rfl, trivial⟩) (by kernel_rfl)
        · skip
          have p4 := of_decide_eq_false e4
          refine A.exit (A.te (A.te (A.bh (A.tn (A.seq (A.region (A.goAS [.p, .p, .st 2] [(4, p_ b1)] [sCl ao (wo a (l.take k)) co, sI al'2 (chR l a) cl'3, blk b1 [vS ao (wo a (l.take k)) co, i_ 0] 113] [b1] T0 (by kernel_rfl) trivial ?_)))))))
          refine A.tn (A.ret ?_)
          have hE_ : delER l a = 0 := by (clear hno; unfold delER; first | (simp_all [fd_ge, fd_neg, gcl]; done) | ((have hi0 : ¬ (i : Int) < 0 := by omega); simp [hi0] at *; simp_all [fd_ge, fd_neg, gcl]; done) | (simp_all [fd_ge, fd_neg, gcl]; omega) | grind [fd_ge, fd_neg, gcl])
          exact absurd hE_ hno

set_option maxHeartbeats 4000000 in
set_option maxRecDepth 100000 in
theorem rdel_ok (al : Option Addr) (l : List Cl) (cl : Nat) (a : Int) (hl : l.length ≤ 100000) (hok : delER l a = 0) (w : World) (r0 : arrAt w al (V.flat encCl l)) (hs : HS w (feet []) [] w) :
    Calls Try.prog 116 #[vS al l cl, i_ a] w fun e w' => ∃ zz, e = .returned ((fun (zz : (Option Addr) × Nat) => match zz with | (al', cl') => (.agg #[vS al' (delLR l a) cl', i_ 0])) zz) ∧ (fun (zz : (Option Addr) × Nat) => match zz with | (al', cl') => True) zz ∧ Turn [] ((fun (zz : (Option Addr) × Nat) => match zz with | (al', cl') => [sCl al' (delLR l a) cl']) zz) w w' := by
  refine calls_of (args := [vS al l cl, i_ a]) (penv [vS al l cl, i_ a]) (feet []) [] Try.func116 rfl rfl (look_penv _) hs ?_
  refine A.norm [(0, vS al l cl), (1, i_ a)] [] (by exact ⟨rfl, rfl, trivial⟩) rfl ?_
  refine A.seq (A.region (A.goA1 [.al] [0, 1, 4] (fun b1 => [(0, vS al l cl), (1, i_ a), (4, p_ b1)]) (fun b1 => [blk b1 [e_, i_ 0] 113]) (fun b1 => []) (fun _ => T0) (fun _ => by kernel_rfl) (fun b1 => trivial) ?_))
  intro b1
  refine A.tn (A.seq (A.seq (A.region (A.goA [.p, .p, .cq (i_ (oI (fd a l))), .p] [(0, vS al l cl), (1, i_ a), (4, p_ b1), (11, b_ (decide ((oI (fd a l)) < 0)))] [] (fun κ => κ.call 68 [vS al l cl, i_ a] (i_ (oI (fd a l))) ∧ True) (by kernel_rfl) ⟨(fun ww ss => fd_spec al l cl a (by first | assumption | omega) ww ((rd_old r0 (by simp [feet])) ww ss)), trivial⟩ ?_))))
  refine A.tn (A.cond (E := decide ((oI (fd a l)) < 0)) rfl (fun e1 => ?_) (fun e1 => ?_))
  · skip
    have p1 := of_decide_eq_true e1
    refine A.seq (A.region (A.goAS [.p, .p, .st 0] [(4, p_ b1)] [blk b1 [vS al l cl, i_ 6] 113] [b1] T0 (by kernel_rfl) trivial ?_))
    refine A.tn (A.ret (A.tr ?_))
    have hE_ : delER l a = 6 := by (clear hok; unfold delER; first | (simp_all [fd_ge, fd_neg, gcl]; done) | ((have hi0 : ¬ (i : Int) < 0 := by omega); simp [hi0] at *; simp_all [fd_ge, fd_neg, gcl]; done) | (simp_all [fd_ge, fd_neg, gcl]; omega) | grind [fd_ge, fd_neg, gcl])
    exact absurd (hE_.symm.trans hok) (by first | decide | assumption)
  · skip
    have p1 := of_decide_eq_false e1
    refine A.skip (A.tn (A.seq (A.seq (A.region (A.goP [.p, .p] [(0, vS al l cl), (1, i_ a), (4, p_ b1), (14, vS al l cl), (15, i_ a)] [] T0 (by kernel_rfl) trivial ?_)))))
    refine A.cons (A.callT (some 16) [vS al l cl, i_ a] [] ((fun zz => match zz with | (al'2, cl'3) => (vS al'2 (chR l a) cl'3))) ((fun zz => match zz with | (al'2, cl'3) => True)) ((fun zz => match zz with | (al'2, cl'3) => [sI al'2 (chR l a) cl'3])) (fun zz => match zz with | (al'2, cl'3) => [sI al'2 (chR l a) cl'3, blk b1 [e_, i_ 0] 113]) (by kernel_rfl) rfl rfl (fun ww ss hh => chR_spec al l cl a (by first | assumption | omega) ww ((rd_old r0 (by simp [feet])) ww ss) hh) (fun _ => rfl) ?_)
    rintro ⟨al'2, cl'3⟩ -
    refine A.goA [.p, .p] [(0, vS al l cl), (1, i_ a), (4, p_ b1), (18, b_ (decide (((chR l a).length : Int) > 0)))] [] T0 (by kernel_rfl) trivial ?_
    refine A.tn (A.cond (E := decide (((chR l a).length : Int) > 0)) rfl (fun e3 => ?_) (fun e3 => ?_))
    · skip
      have p3 := of_decide_eq_true e3
      refine A.seq (A.region (A.goAS [.p, .p, .st 1] [(4, p_ b1)] [sI al'2 (chR l a) cl'3, blk b1 [vS al l cl, i_ 23] 113] [b1] T0 (by kernel_rfl) trivial ?_))
      refine A.tn (A.ret (A.tr ?_))
      have hE_ : delER l a = 23 := by (clear hok; unfold delER; first | (simp_all [fd_ge, fd_neg, gcl]; done) | ((have hi0 : ¬ (i : Int) < 0 := by omega); simp [hi0] at *; simp_all [fd_ge, fd_neg, gcl]; done) | (simp_all [fd_ge, fd_neg, gcl]; omega) | grind [fd_ge, fd_neg, gcl])
      exact absurd (hE_.symm.trans hok) (by first | decide | assumption)
    · skip
      have p3 := of_decide_eq_false e3
      refine A.skip (A.tn (A.seq (A.region (A.goA [.p] [(0, vS al l cl), (1, i_ a), (4, p_ b1), (5, e_)] [] T0 (by kernel_rfl) trivial ?_))))
      refine A.tn (A.seq (A.seq (A.region (A.goA [.p, .p, .p] [(1, i_ a), (4, p_ b1), (5, e_), (21, vS al l cl), (22, c_ l.length), (23, i_ 0)] [] T0 (by kernel_rfl) trivial ?_))))
      refine A.tn (A.block (A.ownNil 98 14 [sI al'2 (chR l a) cl'3, blk b1 [e_, i_ 0] 113, sCl none ([] : List Cl) 0] rfl ?_))
      refine A.setH [sI al'2 (chR l a) cl'3, blk b1 [e_, i_ 0] 113, sCl none (wo a (l.take 0)) 0] (cc rfl (cc rfl (cc (slC (by first | (rw [take_snoc (by assumption), wo_snoc]; simp_all; done) | (simp [wo]; done) | (rw [List.take_of_length_le (by omega)]; exact (delLR_ok hok).symm) | (rw [List.take_of_length_le (by omega)]) | rfl | exact (delLR_ok hok).symm : ([] : List Cl) = (wo a (l.take 0)))) rfl))) ?_
      refine A.sub [(1, i_ a), (4, p_ b1), (5, vS none (wo a (l.take 0)) 0), (21, vS al l cl), (22, c_ l.length), (23, i_ 0)] (by exact ⟨rfl, rfl, congrArg (fun z_ : List Cl => some (Value.slice none z_.length 0)) (by first | (rw [take_snoc (by assumption), wo_snoc]; simp_all; done) | (simp [wo]; done) | (rw [List.take_of_length_le (by omega)]; exact (delLR_ok hok).symm) | (rw [List.take_of_length_le (by omega)]) | rfl | exact (delLR_ok hok).symm : ([] : List Cl) = (wo a (l.take 0))), rfl, rfl, rfl, trivial⟩) ?_
      refine A.loop (fun (zz : Nat × (Option Addr) × Nat) => match zz with | (k, ao, co) => [(1, i_ a), (4, p_ b1), (21, vS al l cl), (22, c_ l.length), (23, c_ k), (5, vS ao (wo a (l.take k)) co)]) (fun (zz : Nat × (Option Addr) × Nat) => match zz with | (k, ao, co) => [sCl ao (wo a (l.take k)) co, sI al'2 (chR l a) cl'3, blk b1 [e_, i_ 0] 113]) (fun (zz : Nat × (Option Addr) × Nat) => match zz with | (k, ao, co) => (k ≤ l.length)) (fun (zz : Nat × (Option Addr) × Nat) => match zz with | (k, ao, co) => l.length - k) (0, none, 0) (by first | assumption | omega | (simp_all; done) | (simp_all; omega) | grind) ?_ ?_
      · exact A.hereK [2, 0, 0] (by exact ⟨rfl, rfl, rfl, rfl, rfl, rfl, trivial⟩) (by kernel_rfl)
      · rintro ⟨k, ao, co⟩ hk
        have hk : k ≤ l.length := hk
        have hdl : (wo a (l.take k)).length ≤ k := Nat.le_trans (wo_len _ _) (by simp; omega)
        refine A.norm [(1, i_ a), (4, p_ b1), (21, vS al l cl), (22, c_ l.length), (23, c_ k), (5, vS ao (wo a (l.take k)) co)] [sCl ao (wo a (l.take k)) co, sI al'2 (chR l a) cl'3, blk b1 [e_, i_ 0] 113] (by exact ⟨rfl, rfl, rfl, rfl, rfl, rfl, trivial⟩) rfl ?_
        refine A.seq (A.region (A.goA [.p] [(1, i_ a), (4, p_ b1), (21, vS al l cl), (22, c_ l.length), (23, c_ k), (5, vS ao (wo a (l.take k)) co), (24, b_ (decide ((k : Int) < (l.length : Int))))] [] T0 (by kernel_rfl) trivial ?_))
        refine A.tn (A.seq (A.cond (E := decide ((k : Int) < (l.length : Int))) rfl (fun e4 => ?_) (fun e4 => ?_)))
        · skip
          have p4 := of_decide_eq_true e4
          refine A.skip (A.tn (A.seq (A.block (A.seq (A.region (A.goP [.ix] [(1, i_ a), (4, p_ b1), (21, vS al l cl), (22, c_ l.length), (23, c_ k), (5, vS ao (wo a (l.take k)) co), (25, (.pointer (some ((at0 al).add (k * 14)))))] [] (fun κ => κ.ix al l.length (k : Int) ∧ True) (by kernel_rfl) ⟨(ixOf encCl_len (by decide) (rd_old r0 (by simp [feet])) (by first | omega | (simp; omega) | (simp; done))), trivial⟩ ?_))))))
          obtain ⟨x6, hx6⟩ : ∃ x, (l)[k]? = some x := ⟨_, List.getElem?_eq_getElem (by omega)⟩
          refine A.goA1 [.rd (encCl x6), .al, .st 3] [1, 4, 21, 22, 23, 5, 7] (fun b7 => [(1, i_ a), (4, p_ b1), (21, vS al l cl), (22, c_ l.length), (23, c_ k), (5, vS ao (wo a (l.take k)) co), (7, p_ b7)]) (fun b7 => [sCl ao (wo a (l.take k)) co, sI al'2 (chR l a) cl'3, blk b1 [e_, i_ 0] 113, blk b7 (encCl x6) 98]) (fun b7 => [b7]) (fun _ => (fun κ => κ.rd ((at0 al).add (k * 14)) (encCl x6) ∧ True)) (fun _ => by kernel_rfl) (fun b7 => ⟨(reads_at0 (vs := (encCl x6)) encCl_len (rd_old r0 (by simp [feet])) hx6 (Nat.le_of_ble_eq_true rfl) rfl), trivial⟩) ?_
          intro b7
          refine A.tn (A.seq (A.region (A.goA [.p, .ld 3, .p, .p] [(1, i_ a), (4, p_ b1), (21, vS al l cl), (22, c_ l.length), (23, c_ k), (5, vS ao (wo a (l.take k)) co), (7, p_ b7), (30, b_ (x6.hi != a))] [b7] T0 (by kernel_rfl) trivial ?_)))
          refine A.tn (A.cond (E := x6.hi != a) rfl (fun e5 => ?_) (fun e5 => ?_))
          · skip
            have p5 := e5; try simp only [nrm] at p5
            refine A.region (A.goP [.p, .ld 3] [(1, i_ a), (4, p_ b1), (21, vS al l cl), (22, c_ l.length), (23, c_ k), (5, vS ao (wo a (l.take k)) co), (31, vS ao (wo a (l.take k)) co), (32, (.agg (encCl x6).toArray))] [b7] T0 (by kernel_rfl) trivial ?_)
            refine A.cons (A.buildSlice 33 (e := 98) (encCl x6) (by kernel_rfl) rfl (fun _ => by kernel_rfl) (fun b8 => [sCl ao (wo a (l.take k)) co, sI al'2 (chR l a) cl'3, blk b1 [e_, i_ 0] 113, blk b7 (encCl x6) 98, blk b8 (encCl x6) 98]) (fun _ => rfl) ?_)
            intro b8
            refine A.cons (A.appendC (enc := encCl) (xs := (wo a (l.take k))) ([x6]) 0 34 (e := 98) (z := (.agg #[i_ 0, i_ 0, b_ false, u_ 0, u_ 0, u_ 0, u_ 0, u_ 0, u_ 0, u_ 0, u_ 0, u_ 0, i_ 0, i_ 0])) (sz := 14) (by_ := 112) (by kernel_rfl) rfl rfl rfl (by kernel_rfl) (by kernel_rfl) (by rfl) (by decide) encCl_len encCl_one rfl (rd_blk (i := 4) rfl) (by simp; omega) (fun A9 c9 => [sCl A9 ((wo a (l.take k)) ++ ([x6])) c9, sI al'2 (chR l a) cl'3, blk b1 [e_, i_ 0] 113, blk b7 (encCl x6) 98, blk b8 (encCl x6) 98]) (fun _ _ => rfl) ?_)
            intro A9 c9
            refine A.goA [.p] [(1, i_ a), (4, p_ b1), (21, vS al l cl), (22, c_ l.length), (23, c_ k), (5, vS A9 ((wo a (l.take k)) ++ ([x6])) c9)] [] T0 (by kernel_rfl) trivial ?_
            refine A.bn (A.tn (A.region (A.goA [.w ((k : Int) + 1), .p] [(1, i_ a), (4, p_ b1), (21, vS al l cl), (22, c_ l.length), (23, i_ ((k : Int) + 1)), (5, vS A9 ((wo a (l.take k)) ++ ([x6])) c9)] [] (fun κ => (IntKind.i64.wrap ((k : Int) + 1) = ((k : Int) + 1)) ∧ True) (by kernel_rfl) ⟨(wrap_i64 (e := (k : Int) + 1) (by constructor <;> omega)), trivial⟩ ?_)))
            refine A.tn (A.setH [sCl A9 (wo a (l.take (k + 1))) c9, sI al'2 (chR l a) cl'3, blk b1 [e_, i_ 0] 113, blk b7 (encCl x6) 98, blk b8 (encCl x6) 98] (cc (slC (by first | (rw [take_snoc (by assumption), wo_snoc]; simp_all; done) | (simp [wo]; done) | (rw [List.take_of_length_le (by omega)]; exact (delLR_ok hok).symm) | (rw [List.take_of_length_le (by omega)]) | rfl | exact (delLR_ok hok).symm : (wo a (l.take k)) ++ ([x6]) = (wo a (l.take (k + 1))))) rfl) ?_)
            refine A.sub [(1, i_ a), (4, p_ b1), (21, vS al l cl), (22, c_ l.length), (23, i_ ((k : Int) + 1)), (5, vS A9 (wo a (l.take (k + 1))) c9)] (by exact ⟨rfl, rfl, rfl, rfl, rfl, congrArg (fun z_ : List Cl => some (Value.slice A9 z_.length c9)) (by first | (rw [take_snoc (by assumption), wo_snoc]; simp_all; done) | (simp [wo]; done) | (rw [List.take_of_length_le (by omega)]; exact (delLR_ok hok).symm) | (rw [List.take_of_length_le (by omega)]) | rfl | exact (delLR_ok hok).symm : (wo a (l.take k)) ++ ([x6]) = (wo a (l.take (k + 1)))), trivial⟩) ?_
            refine A.next (k + 1, A9, c9) (by first | assumption | omega | (simp_all; done) | (simp_all; omega) | grind) (by first | omega | (simp; omega) | (simp_all; omega)) ?_
            exact A.hereK [0, 0, 0] (by exact ⟨rfl, rfl, rfl, rfl, rfl, rfl, trivial⟩) (by kernel_rfl)
          · skip
            have p5 := e5; try simp only [nrm] at p5
            refine A.skip (A.bn (A.tn (A.region (A.goA [.w ((k : Int) + 1), .p] [(1, i_ a), (4, p_ b1), (21, vS al l cl), (22, c_ l.length), (23, i_ ((k : Int) + 1)), (5, vS ao (wo a (l.take k)) co)] [] (fun κ => (IntKind.i64.wrap ((k : Int) + 1) = ((k : Int) + 1)) ∧ True) (by kernel_rfl) ⟨(wrap_i64 (e := (k : Int) + 1) (by constructor <;> omega)), trivial⟩ ?_))))
            refine A.tn (A.setH [sCl ao (wo a (l.take (k + 1))) co, sI al'2 (chR l a) cl'3, blk b1 [e_, i_ 0] 113, blk b7 (encCl x6) 98] (cc (slC (by first | (rw [take_snoc (by assumption), wo_snoc]; simp_all; done) | (simp [wo]; done) | (rw [List.take_of_length_le (by omega)]; exact (delLR_ok hok).symm) | (rw [List.take_of_length_le (by omega)]) | rfl | exact (delLR_ok hok).symm : (wo a (l.take k)) = (wo a (l.take (k + 1))))) rfl) ?_)
            refine A.sub [(1, i_ a), (4, p_ b1), (21, vS al l cl), (22, c_ l.length), (23, i_ ((k : Int) + 1)), (5, vS ao (wo a (l.take (k + 1))) co)] (by exact ⟨rfl, rfl, rfl, rfl, rfl, congrArg (fun z_ : List Cl => some (Value.slice ao z_.length co)) (by first | (rw [take_snoc (by assumption), wo_snoc]; simp_all; done) | (simp [wo]; done) | (rw [List.take_of_length_le (by omega)]; exact (delLR_ok hok).symm) | (rw [List.take_of_length_le (by omega)]) | rfl | exact (delLR_ok hok).symm : (wo a (l.take k)) = (wo a (l.take (k + 1)))), trivial⟩) ?_
            refine A.next (k + 1, ao, co) (by first | assumption | omega | (simp_all; done) | (simp_all; omega) | grind) (by first | omega | (simp; omega) | (simp_all; omega)) ?_
            exact A.hereK [0, 0, 0] (by exact ⟨rfl, rfl, rfl, rfl, rfl, rfl, trivial⟩) (by kernel_rfl)
        · skip
          have p4 := of_decide_eq_false e4
          refine A.exit (A.te (A.te (A.bh (A.tn (A.seq (A.region (A.goAS [.p, .p, .st 2] [(4, p_ b1)] [sCl ao (wo a (l.take k)) co, sI al'2 (chR l a) cl'3, blk b1 [vS ao (wo a (l.take k)) co, i_ 0] 113] [b1] T0 (by kernel_rfl) trivial ?_)))))))
          refine A.tn (A.ret ?_)
          have hE_ : delER l a = 0 := by (clear hok; unfold delER; first | (simp_all [fd_ge, fd_neg, gcl]; done) | ((have hi0 : ¬ (i : Int) < 0 := by omega); simp [hi0] at *; simp_all [fd_ge, fd_neg, gcl]; done) | (simp_all [fd_ge, fd_neg, gcl]; omega) | grind [fd_ge, fd_neg, gcl])
          refine A.setH [sCl ao (delLR l a) co, sI al'2 (chR l a) cl'3, blk b1 [vS ao (wo a (l.take k)) co, i_ 0] 113] (cc (slC (by first | (rw [take_snoc (by assumption), wo_snoc]; simp_all; done) | (simp [wo]; done) | (rw [List.take_of_length_le (by omega)]; exact (delLR_ok hok).symm) | (rw [List.take_of_length_le (by omega)]) | rfl | exact (delLR_ok hok).symm : (wo a (l.take k)) = (delLR l a))) rfl) ?_
          refine A.postK [0] [(.agg #[vS ao (wo a (l.take k)) co, i_ 0])] (fun aa ww rr ss => ⟨rv_cellN (vs := [vS ao (wo a (l.take k)) co, i_ 0]) rr ss rfl (by kernel_rfl) (reads_blk (i := 2) rfl rfl), trivial⟩) (ao, co) ?_ ?_ (by kernel_rfl)
          · show ((.agg #[vS ao (wo a (l.take k)) co, i_ 0]) : Value) = (.agg #[vS ao (delLR l a) co, i_ 0])
            first | rfl | (rw [hE_]; done) | (rw [List.take_of_length_le (by omega), delLR_ok hok]; done) | (rw [delLR_ok hok]; done)
          · trivial

set_option maxHeartbeats 4000000 in
set_option maxRecDepth 100000 in
theorem rset_no (al : Option Addr) (l : List Cl) (cl : Nat) (y : Cl) (hl : l.length ≤ 100000) (hno : setER l y ≠ 0) (w : World) (r0 : arrAt w al (V.flat encCl l)) (hs : HS w (feet []) [] w) :
    Calls Try.prog 117 #[vS al l cl, (.agg (encCl y).toArray)] w fun e w' => ∃ zz, e = .returned ((fun (zz : Unit) => (.agg #[vS al l cl, i_ (setER l y)])) zz) ∧ (fun (zz : Unit) => True) zz ∧ Turn [] ((fun (zz : Unit) => []) zz) w w' := by
  refine calls_of (args := [vS al l cl, (.agg (encCl y).toArray)]) (penv [vS al l cl, (.agg (encCl y).toArray)]) (feet []) [] Try.func117 rfl rfl (look_penv _) hs ?_
  refine A.norm [(0, vS al l cl), (1, (.agg (encCl y).toArray))] [] (by exact ⟨rfl, rfl, trivial⟩) rfl ?_
  refine A.seq (A.region (A.goA2 [.al, .al] [0, 3, 4] (fun b1 b2 => [(0, vS al l cl), (3, p_ b1), (4, p_ b2)]) (fun b1 b2 => [blk b1 (encCl y) 98, blk b2 [e_, i_ 0] 113]) (fun b1 b2 => []) (fun _ _ => T0) (fun _ _ => by kernel_rfl) (fun b1 b2 => trivial) ?_))
  intro b1 b2
  refine A.tn (A.seq (A.seq (A.region (A.goA [.ld 0, .cq (i_ (wrongR y)), .p] [(0, vS al l cl), (3, p_ b1), (4, p_ b2), (5, i_ (wrongR y))] [b1] (fun κ => κ.call 144 [(.agg (encCl y).toArray)] (i_ (wrongR y)) ∧ True) (by kernel_rfl) ⟨(fun ww ss => rwrong_spec y ww), trivial⟩ ?_))))
  refine A.tn (A.seq (A.region (A.goA [.p, .p] [(0, vS al l cl), (3, p_ b1), (4, p_ b2), (5, i_ (wrongR y)), (13, b_ ((wrongR y) != 0))] [] T0 (by kernel_rfl) trivial ?_)))
  refine A.tn (A.cond (E := (wrongR y) != 0) rfl (fun e1 => ?_) (fun e1 => ?_))
  · skip
    have p1 := e1; try simp only [nrm] at p1
    refine A.seq (A.region (A.goAS [.p, .p, .p, .st 1] [(4, p_ b2)] [blk b1 (encCl y) 98, blk b2 [vS al l cl, i_ (wrongR y)] 113] [b2] T0 (by kernel_rfl) trivial ?_))
    refine A.tn (A.ret (A.tr ?_))
    have hE_ : setER l y = (wrongR y) := by (clear hno; unfold setER; first | (simp_all [fd_ge, fd_neg, gcl]; done) | ((have hq_ := anyI_t (f := shB l y) (by assumption) (by unfold shB; assumption)); simp only [hq_]; first | (simp_all [gcl]; done) | grind [gcl]) | ((have hq_ := anyI_f hn (by omega)); simp only [hq_]; first | (simp_all [gcl]; done) | grind [gcl]) | grind [fd_ge, fd_neg, gcl])
    refine A.postK [] [(.agg #[vS al l cl, i_ (wrongR y)])] (fun aa ww rr ss => ⟨rv_cellN (vs := [vS al l cl, i_ (wrongR y)]) rr ss rfl (by kernel_rfl) (reads_blk (i := 1) rfl rfl), trivial⟩) () ?_ ?_ (by kernel_rfl)
    · show ((.agg #[vS al l cl, i_ (wrongR y)]) : Value) = (.agg #[vS al l cl, i_ (setER l y)])
      first | rfl | (rw [hE_]; done) | (rw [List.take_of_length_le (by omega), setLR_ok hok]; done) | (rw [setLR_ok hok]; done)
    · trivial
  · skip
    have p1 := e1; try simp only [nrm] at p1
    refine A.skip (A.tn (A.seq (A.region (A.goA [.p, .p, .ld 0, .cq (i_ (oI (fd y.hi l))), .p] [(0, vS al l cl), (3, p_ b1), (4, p_ b2), (6, i_ (oI (fd y.hi l)))] [b1] (fun κ => κ.call 68 [vS al l cl, i_ y.hi] (i_ (oI (fd y.hi l))) ∧ True) (by kernel_rfl) ⟨(fun ww ss => fd_spec al l cl y.hi (by first | assumption | omega) ww ((rd_old r0 (by simp [feet])) ww ss)), trivial⟩ ?_))))
    refine A.tn (A.seq (A.seq ?_))
    by_cases ho : fd y.hi l = none
    · skip
      have hm := fd_no ho
      refine A.sub [(0, vS al l cl), (3, p_ b1), (4, p_ b2), (6, i_ (-1))] (by exact ⟨rfl, rfl, rfl, congrArg (fun z_ => some (i_ z_)) (by rw [ho]; rfl : (oI (fd y.hi l)) = -1), trivial⟩) ?_
      refine A.region (A.goA [.p, .p] [(0, vS al l cl), (3, p_ b1), (4, p_ b2), (6, i_ (-1)), (22, b_ true)] [] T0 (by kernel_rfl) trivial ?_)
      refine A.tn (A.cond_t rfl (A.seq (A.region (A.goAS [.p, .p, .st 1] [(4, p_ b2)] [blk b1 (encCl y) 98, blk b2 [vS al l cl, i_ 6] 113] [b2] T0 (by kernel_rfl) trivial ?_))))
      refine A.tn (A.ret (A.tr ?_))
      have hE_ : setER l y = 6 := by (clear hno; unfold setER; first | (simp_all [fd_ge, fd_neg, gcl]; done) | ((have hq_ := anyI_t (f := shB l y) (by assumption) (by unfold shB; assumption)); simp only [hq_]; first | (simp_all [gcl]; done) | grind [gcl]) | ((have hq_ := anyI_f hn (by omega)); simp only [hq_]; first | (simp_all [gcl]; done) | grind [gcl]) | grind [fd_ge, fd_neg, gcl])
      refine A.postK [] [(.agg #[vS al l cl, i_ 6])] (fun aa ww rr ss => ⟨rv_cellN (vs := [vS al l cl, i_ 6]) rr ss rfl (by kernel_rfl) (reads_blk (i := 1) rfl rfl), trivial⟩) () ?_ ?_ (by kernel_rfl)
      · show ((.agg #[vS al l cl, i_ 6]) : Value) = (.agg #[vS al l cl, i_ (setER l y)])
        first | rfl | (rw [hE_]; done) | (rw [List.take_of_length_le (by omega), setLR_ok hok]; done) | (rw [setLR_ok hok]; done)
      · trivial
    · skip
      obtain ⟨i, hi⟩ := Option.ne_none_iff_exists'.1 ho; obtain ⟨x, hx, hm⟩ := fd_yes hi; have hlt := (List.getElem?_eq_some_iff.1 hx).1
      refine A.sub [(0, vS al l cl), (3, p_ b1), (4, p_ b2), (6, c_ i)] (by exact ⟨rfl, rfl, rfl, congrArg (fun z_ => some (i_ z_)) (by rw [hi]; rfl : (oI (fd y.hi l)) = (i : Int)), trivial⟩) ?_
      refine A.region (A.goA [.p, .p] [(0, vS al l cl), (3, p_ b1), (4, p_ b2), (6, c_ i), (22, b_ (decide ((i : Int) < 0)))] [] T0 (by kernel_rfl) trivial ?_)
      refine A.tn (A.cond (E := decide ((i : Int) < 0)) rfl (fun e2 => ?_) (fun e2 => ?_))
      · exact absurd e2 (by simp)
      · skip
        have p2 := of_decide_eq_false e2
        refine A.skip (A.tn (A.seq (A.seq (A.drawA [.p, .p, .ix, .p, .rd [i_ x.hp], .p, .ld 0, .p, .p, .o, .p, .p, .ix, .p, .rd [b_ x.hl], .p, .ld 0, .eq, .cl] [0, 1, 2, 3, 4, 5, 6, 7, 8, 9, 10, 11, 12, 13, 14, 15, 16, 17] [(0, vS al l cl), (3, p_ b1), (4, p_ b2), (42, b_ ((x.hp != y.hp) || (!(x.hl == y.hl))))] [b1, b1] (fun κ => κ.ix al l.length (i : Int) ∧ κ.rd (((at0 al).add (i * 14)).add 1) [i_ x.hp] ∧ ((true && ((x.hp != y.hp) == false)) = true → κ.ix al l.length (i : Int)) ∧ ((true && ((x.hp != y.hp) == false)) = true → κ.rd (((at0 al).add (i * 14)).add 2) [b_ x.hl]) ∧ True) (by kernel_rfl) (by kernel_rfl) ⟨(ixOf encCl_len (by decide) (rd_old r0 (by simp [feet])) (by first | omega | (simp; omega) | (simp; done))), reads_at2 (f := 1) (vs := [i_ x.hp]) encCl_len (rd_old r0 (by simp [feet])) hx (by simp) rfl, (fun h_ => (ixOf encCl_len (by decide) (rd_old r0 (by simp [feet])) (by first | omega | (simp; omega) | (simp; done)))), (fun h_ => (reads_at2 (f := 2) (vs := [b_ x.hl]) encCl_len (rd_old r0 (by simp [feet])) hx (by simp) rfl)), trivial⟩ ?_))))
        refine A.tn (A.cond (E := (x.hp != y.hp) || (!(x.hl == y.hl))) rfl (fun e3 => ?_) (fun e3 => ?_))
        · skip
          have p3 := e3; try simp only [nrm] at p3
          refine A.seq (A.region (A.goAS [.p, .p, .st 1] [(4, p_ b2)] [blk b1 (encCl y) 98, blk b2 [vS al l cl, i_ 1] 113] [b2] T0 (by kernel_rfl) trivial ?_))
          refine A.tn (A.ret (A.tr ?_))
          have hE_ : setER l y = 1 := by (clear hno; unfold setER; first | (simp_all [fd_ge, fd_neg, gcl]; done) | ((have hq_ := anyI_t (f := shB l y) (by assumption) (by unfold shB; assumption)); simp only [hq_]; first | (simp_all [gcl]; done) | grind [gcl]) | ((have hq_ := anyI_f hn (by omega)); simp only [hq_]; first | (simp_all [gcl]; done) | grind [gcl]) | grind [fd_ge, fd_neg, gcl])
          refine A.postK [] [(.agg #[vS al l cl, i_ 1])] (fun aa ww rr ss => ⟨rv_cellN (vs := [vS al l cl, i_ 1]) rr ss rfl (by kernel_rfl) (reads_blk (i := 1) rfl rfl), trivial⟩) () ?_ ?_ (by kernel_rfl)
          · show ((.agg #[vS al l cl, i_ 1]) : Value) = (.agg #[vS al l cl, i_ (setER l y)])
            first | rfl | (rw [hE_]; done) | (rw [List.take_of_length_le (by omega), setLR_ok hok]; done) | (rw [setLR_ok hok]; done)
          · trivial
        · skip
          have p3 := e3; try simp only [nrm] at p3
          refine A.skip (A.tn (A.seq (A.region (A.goA [.p, .ld 0, .cq (i_ (ofR y.la y.lb y.lc)), .p, .p] [(0, vS al l cl), (3, p_ b1), (4, p_ b2), (7, b_ (decide ((ofR y.la y.lb y.lc) > 1)))] [b1] (fun κ => κ.call 97 [(.agg #[u_ y.la, u_ y.lb, u_ y.lc])] (i_ (ofR y.la y.lb y.lc)) ∧ True) (by kernel_rfl) ⟨(fun ww ss => rof_spec y.la y.lb y.lc ww), trivial⟩ ?_))))
          refine A.tn (A.seq (A.seq (A.region (A.goA [.p, .p, .o, .p, .p, .ld 0, .cq (b_ (shR l y.hp)), .p, .cl] [(0, vS al l cl), (3, p_ b1), (4, p_ b2), (7, b_ (decide ((ofR y.la y.lb y.lc) > 1))), (56, b_ ((decide ((ofR y.la y.lb y.lc) > 1)) && (!(shR l y.hp))))] [b1] (fun κ => ((true && ((decide ((ofR y.la y.lb y.lc) > 1)) == true)) = true → κ.call 145 [vS al l cl, i_ y.hp] (b_ (shR l y.hp))) ∧ True) (by kernel_rfl) ⟨(fun h_ => (fun ww ss => shR_spec al l cl y.hp (by first | assumption | omega) ww ((rd_old r0 (by simp [feet])) ww ss))), trivial⟩ ?_))))
          refine A.tn (A.cond (E := (decide ((ofR y.la y.lb y.lc) > 1)) && (!(shR l y.hp))) rfl (fun e4 => ?_) (fun e4 => ?_))
          · skip
            have p4 := e4; try simp only [nrm] at p4
            refine A.seq (A.region (A.goAS [.p, .p, .st 1] [(4, p_ b2)] [blk b1 (encCl y) 98, blk b2 [vS al l cl, i_ 29] 113] [b2] T0 (by kernel_rfl) trivial ?_))
            refine A.tn (A.ret (A.tr ?_))
            have hE_ : setER l y = 29 := by (clear hno; unfold setER; first | (simp_all [fd_ge, fd_neg, gcl]; done) | ((have hq_ := anyI_t (f := shB l y) (by assumption) (by unfold shB; assumption)); simp only [hq_]; first | (simp_all [gcl]; done) | grind [gcl]) | ((have hq_ := anyI_f hn (by omega)); simp only [hq_]; first | (simp_all [gcl]; done) | grind [gcl]) | grind [fd_ge, fd_neg, gcl])
            refine A.postK [] [(.agg #[vS al l cl, i_ 29])] (fun aa ww rr ss => ⟨rv_cellN (vs := [vS al l cl, i_ 29]) rr ss rfl (by kernel_rfl) (reads_blk (i := 1) rfl rfl), trivial⟩) () ?_ ?_ (by kernel_rfl)
            · show ((.agg #[vS al l cl, i_ 29]) : Value) = (.agg #[vS al l cl, i_ (setER l y)])
              first | rfl | (rw [hE_]; done) | (rw [List.take_of_length_le (by omega), setLR_ok hok]; done) | (rw [setLR_ok hok]; done)
            · trivial
          · skip
            have p4 := e4; try simp only [nrm] at p4
            refine A.skip (A.tn (A.seq (A.seq (A.region (A.goP [.p, .p, .ld 0] [(0, vS al l cl), (3, p_ b1), (4, p_ b2), (7, b_ (decide ((ofR y.la y.lb y.lc) > 1))), (59, vS al l cl), (61, i_ y.hi)] [b1] T0 (by kernel_rfl) trivial ?_)))))
            refine A.cons (A.callT (some 62) [vS al l cl, i_ y.hi] [] ((fun zz => match zz with | (al'3, cl'4) => (vS al'3 (chR l y.hi) cl'4))) ((fun zz => match zz with | (al'3, cl'4) => True)) ((fun zz => match zz with | (al'3, cl'4) => [sI al'3 (chR l y.hi) cl'4])) (fun zz => match zz with | (al'3, cl'4) => [sI al'3 (chR l y.hi) cl'4, blk b1 (encCl y) 98, blk b2 [e_, i_ 0] 113]) (by kernel_rfl) rfl rfl (fun ww ss hh => chR_spec al l cl y.hi (by first | assumption | omega) ww ((rd_old r0 (by simp [feet])) ww ss) hh) (fun _ => rfl) ?_)
            rintro ⟨al'3, cl'4⟩ -
            refine A.goA [.p, .p] [(0, vS al l cl), (3, p_ b1), (4, p_ b2), (7, b_ (decide ((ofR y.la y.lb y.lc) > 1))), (62, vS al'3 (chR l y.hi) cl'4), (63, i_ ((chR l y.hi).length : Int)), (64, i_ 0)] [] T0 (by kernel_rfl) trivial ?_
            refine A.tn (A.block (A.loop (fun (zz : Nat) => match zz with | k => [(0, vS al l cl), (3, p_ b1), (4, p_ b2), (7, b_ (decide ((ofR y.la y.lb y.lc) > 1))), (62, vS al'3 (chR l y.hi) cl'4), (63, i_ ((chR l y.hi).length : Int)), (64, c_ k)]) (fun (zz : Nat) => match zz with | k => [sI al'3 (chR l y.hi) cl'4, blk b1 (encCl y) 98, blk b2 [e_, i_ 0] 113]) (fun (zz : Nat) => match zz with | k => (k ≤ (chR l y.hi).length) ∧ (∀ z ∈ (chR l y.hi).take k, shB l y z = false)) (fun (zz : Nat) => match zz with | k => (chR l y.hi).length - k) (0 : Nat) ⟨(by omega), (by simp)⟩ ?_ ?_))
            · exact A.hereK [0, 0, 0] (by exact ⟨rfl, rfl, rfl, rfl, rfl, rfl, rfl, trivial⟩) (by kernel_rfl)
            · rintro k ⟨hk, hn⟩
              have hkl := chR_len l y.hi
              refine A.norm [(0, vS al l cl), (3, p_ b1), (4, p_ b2), (7, b_ (decide ((ofR y.la y.lb y.lc) > 1))), (62, vS al'3 (chR l y.hi) cl'4), (63, i_ ((chR l y.hi).length : Int)), (64, c_ k)] [sI al'3 (chR l y.hi) cl'4, blk b1 (encCl y) 98, blk b2 [e_, i_ 0] 113] (by exact ⟨rfl, rfl, rfl, rfl, rfl, rfl, rfl, trivial⟩) rfl ?_
              refine A.seq (A.region (A.goA [.p] [(0, vS al l cl), (3, p_ b1), (4, p_ b2), (7, b_ (decide ((ofR y.la y.lb y.lc) > 1))), (62, vS al'3 (chR l y.hi) cl'4), (63, i_ ((chR l y.hi).length : Int)), (64, c_ k), (65, b_ (decide ((k : Int) < ((chR l y.hi).length : Int))))] [] T0 (by kernel_rfl) trivial ?_))
              refine A.tn (A.seq (A.cond (E := decide ((k : Int) < ((chR l y.hi).length : Int))) rfl (fun e6 => ?_) (fun e6 => ?_)))
              · skip
                have p6 := of_decide_eq_true e6
                refine A.skip (A.tn (A.seq (A.block (A.seq (A.region (A.goP [.ix] [(0, vS al l cl), (3, p_ b1), (4, p_ b2), (7, b_ (decide ((ofR y.la y.lb y.lc) > 1))), (62, vS al'3 (chR l y.hi) cl'4), (63, i_ ((chR l y.hi).length : Int)), (64, c_ k), (66, (.pointer (some ((at0 al'3).add (k * 1)))))] [] (fun κ => κ.ix al'3 ((chR l y.hi).length) (k : Int) ∧ True) (by kernel_rfl) ⟨(ixOf encI_len (by decide) (rd_sl (i := 0) rfl) (by first | omega | (simp; omega) | (simp; done))), trivial⟩ ?_))))))
                obtain ⟨x6, hx6⟩ : ∃ x, ((chR l y.hi))[k]? = some x := ⟨_, List.getElem?_eq_getElem (by omega)⟩
                refine A.goA [.rd [i_ x6], .p] [(0, vS al l cl), (3, p_ b1), (4, p_ b2), (7, b_ (decide ((ofR y.la y.lb y.lc) > 1))), (62, vS al'3 (chR l y.hi) cl'4), (63, i_ ((chR l y.hi).length : Int)), (64, c_ k), (9, i_ x6)] [] (fun κ => κ.rd ((at0 al'3).add (k * 1)) [i_ x6] ∧ True) (by kernel_rfl) ⟨(reads_at0 (vs := [i_ x6]) encI_len (rd_sl (i := 0) rfl) hx6 (Nat.le_of_ble_eq_true rfl) rfl), trivial⟩ ?_
                refine A.tn (A.seq (A.region (A.goA [.p, .p, .p, .o, .p, .p, .cq (b_ (shR l x6)), .cl] [(0, vS al l cl), (3, p_ b1), (4, p_ b2), (7, b_ (decide ((ofR y.la y.lb y.lc) > 1))), (62, vS al'3 (chR l y.hi) cl'4), (63, i_ ((chR l y.hi).length : Int)), (64, c_ k), (74, b_ ((!(decide ((ofR y.la y.lb y.lc) > 1))) && (shR l x6)))] [] (fun κ => ((true && ((!(decide ((ofR y.la y.lb y.lc) > 1))) == true)) = true → κ.call 145 [vS al l cl, i_ x6] (b_ (shR l x6))) ∧ True) (by kernel_rfl) ⟨(fun h_ => (fun ww ss => shR_spec al l cl x6 (by first | assumption | omega) ww ((rd_old r0 (by simp [feet])) ww ss))), trivial⟩ ?_)))
                refine A.tn (A.cond (E := (!(decide ((ofR y.la y.lb y.lc) > 1))) && (shR l x6)) rfl (fun e7 => ?_) (fun e7 => ?_))
                · skip
                  have p7 := e7; try simp only [nrm] at p7
                  refine A.seq (A.region (A.goAS [.p, .p, .st 2] [(4, p_ b2)] [sI al'3 (chR l y.hi) cl'4, blk b1 (encCl y) 98, blk b2 [vS al l cl, i_ 29] 113] [b2] T0 (by kernel_rfl) trivial ?_))
                  refine A.tn (A.ret (A.br (A.tr (A.tr (A.br (A.tr ?_))))))
                  have hE_ : setER l y = 29 := by (clear hno; unfold setER; first | (simp_all [fd_ge, fd_neg, gcl]; done) | ((have hq_ := anyI_t (f := shB l y) (by assumption) (by unfold shB; assumption)); simp only [hq_]; first | (simp_all [gcl]; done) | grind [gcl]) | ((have hq_ := anyI_f hn (by omega)); simp only [hq_]; first | (simp_all [gcl]; done) | grind [gcl]) | grind [fd_ge, fd_neg, gcl])
                  refine A.postK [] [(.agg #[vS al l cl, i_ 29])] (fun aa ww rr ss => ⟨rv_cellN (vs := [vS al l cl, i_ 29]) rr ss rfl (by kernel_rfl) (reads_blk (i := 2) rfl rfl), trivial⟩) () ?_ ?_ (by kernel_rfl)
                  · show ((.agg #[vS al l cl, i_ 29]) : Value) = (.agg #[vS al l cl, i_ (setER l y)])
                    first | rfl | (rw [hE_]; done) | (rw [List.take_of_length_le (by omega), setLR_ok hok]; done) | (rw [setLR_ok hok]; done)
                  · trivial
                · skip
                  have p7 := e7; try simp only [nrm] at p7
                  refine A.skip (A.bn (A.tn (A.region (A.goA [.w ((k : Int) + 1), .p] [(0, vS al l cl), (3, p_ b1), (4, p_ b2), (7, b_ (decide ((ofR y.la y.lb y.lc) > 1))), (62, vS al'3 (chR l y.hi) cl'4), (63, i_ ((chR l y.hi).length : Int)), (64, i_ ((k : Int) + 1))] [] (fun κ => (IntKind.i64.wrap ((k : Int) + 1) = ((k : Int) + 1)) ∧ True) (by kernel_rfl) ⟨(wrap_i64 (e := (k : Int) + 1) (by constructor <;> omega)), trivial⟩ ?_))))
                  refine A.tn (A.next (k + 1) ⟨(by omega), (by exact anyI_s hn (by assumption) (by unfold shB; simp_all))⟩ (by first | omega | (simp; omega) | (simp_all; omega)) ?_)
                  exact A.hereK [0, 0, 0] (by exact ⟨rfl, rfl, rfl, rfl, rfl, rfl, rfl, trivial⟩) (by kernel_rfl)
              · skip
                have p6 := of_decide_eq_false e6
                refine A.exit (A.te (A.te (A.bh (A.tn (A.seq (A.region (A.goP [.p, .ld 1] [(4, p_ b2), (78, vS al l cl), (79, (.agg (encCl y).toArray))] [b1] T0 (by kernel_rfl) trivial ?_)))))))
                refine A.cons (A.callT (some 80) [vS al l cl, (.agg (encCl y).toArray)] [] ((fun zz => match zz with | (al'7, cl'8) => (vS al'7 (setL y l) cl'8))) ((fun zz => match zz with | (al'7, cl'8) => True)) ((fun zz => match zz with | (al'7, cl'8) => [sCl al'7 (setL y l) cl'8])) (fun zz => match zz with | (al'7, cl'8) => [sCl al'7 (setL y l) cl'8, sI al'3 (chR l y.hi) cl'4, blk b1 (encCl y) 98, blk b2 [e_, i_ 0] 113]) (by kernel_rfl) rfl rfl (fun ww ss hh => put_spec al l cl y (by first | assumption | omega) ww ((rd_old r0 (by simp [feet])) ww ss) hh) (fun _ => rfl) ?_)
                rintro ⟨al'7, cl'8⟩ -
                refine A.goAS [.p, .st 3] [(4, p_ b2)] [sCl al'7 (setL y l) cl'8, sI al'3 (chR l y.hi) cl'4, blk b1 (encCl y) 98, blk b2 [vS al'7 (setL y l) cl'8, i_ 0] 113] [b2] T0 (by kernel_rfl) trivial ?_
                refine A.tn (A.ret ?_)
                have hE_ : setER l y = 0 := by (clear hno; unfold setER; first | (simp_all [fd_ge, fd_neg, gcl]; done) | ((have hq_ := anyI_t (f := shB l y) (by assumption) (by unfold shB; assumption)); simp only [hq_]; first | (simp_all [gcl]; done) | grind [gcl]) | ((have hq_ := anyI_f hn (by omega)); simp only [hq_]; first | (simp_all [gcl]; done) | grind [gcl]) | grind [fd_ge, fd_neg, gcl])
                exact absurd hE_ hno

set_option maxHeartbeats 4000000 in
set_option maxRecDepth 100000 in
theorem rset_ok (al : Option Addr) (l : List Cl) (cl : Nat) (y : Cl) (hl : l.length ≤ 100000) (hok : setER l y = 0) (w : World) (r0 : arrAt w al (V.flat encCl l)) (hs : HS w (feet []) [] w) :
    Calls Try.prog 117 #[vS al l cl, (.agg (encCl y).toArray)] w fun e w' => ∃ zz, e = .returned ((fun (zz : (Option Addr) × Nat) => match zz with | (al', cl') => (.agg #[vS al' (setLR l y) cl', i_ 0])) zz) ∧ (fun (zz : (Option Addr) × Nat) => match zz with | (al', cl') => True) zz ∧ Turn [] ((fun (zz : (Option Addr) × Nat) => match zz with | (al', cl') => [sCl al' (setLR l y) cl']) zz) w w' := by
  refine calls_of (args := [vS al l cl, (.agg (encCl y).toArray)]) (penv [vS al l cl, (.agg (encCl y).toArray)]) (feet []) [] Try.func117 rfl rfl (look_penv _) hs ?_
  refine A.norm [(0, vS al l cl), (1, (.agg (encCl y).toArray))] [] (by exact ⟨rfl, rfl, trivial⟩) rfl ?_
  refine A.seq (A.region (A.goA2 [.al, .al] [0, 3, 4] (fun b1 b2 => [(0, vS al l cl), (3, p_ b1), (4, p_ b2)]) (fun b1 b2 => [blk b1 (encCl y) 98, blk b2 [e_, i_ 0] 113]) (fun b1 b2 => []) (fun _ _ => T0) (fun _ _ => by kernel_rfl) (fun b1 b2 => trivial) ?_))
  intro b1 b2
  refine A.tn (A.seq (A.seq (A.region (A.goA [.ld 0, .cq (i_ (wrongR y)), .p] [(0, vS al l cl), (3, p_ b1), (4, p_ b2), (5, i_ (wrongR y))] [b1] (fun κ => κ.call 144 [(.agg (encCl y).toArray)] (i_ (wrongR y)) ∧ True) (by kernel_rfl) ⟨(fun ww ss => rwrong_spec y ww), trivial⟩ ?_))))
  refine A.tn (A.seq (A.region (A.goA [.p, .p] [(0, vS al l cl), (3, p_ b1), (4, p_ b2), (5, i_ (wrongR y)), (13, b_ ((wrongR y) != 0))] [] T0 (by kernel_rfl) trivial ?_)))
  refine A.tn (A.cond (E := (wrongR y) != 0) rfl (fun e1 => ?_) (fun e1 => ?_))
  · skip
    have p1 := e1; try simp only [nrm] at p1
    refine A.seq (A.region (A.goAS [.p, .p, .p, .st 1] [(4, p_ b2)] [blk b1 (encCl y) 98, blk b2 [vS al l cl, i_ (wrongR y)] 113] [b2] T0 (by kernel_rfl) trivial ?_))
    refine A.tn (A.ret (A.tr ?_))
    have hE_ : setER l y = (wrongR y) := by (clear hok; unfold setER; first | (simp_all [fd_ge, fd_neg, gcl]; done) | ((have hq_ := anyI_t (f := shB l y) (by assumption) (by unfold shB; assumption)); simp only [hq_]; first | (simp_all [gcl]; done) | grind [gcl]) | ((have hq_ := anyI_f hn (by omega)); simp only [hq_]; first | (simp_all [gcl]; done) | grind [gcl]) | grind [fd_ge, fd_neg, gcl])
    exact absurd (hE_.symm.trans hok) (by first | decide | assumption)
  · skip
    have p1 := e1; try simp only [nrm] at p1
    refine A.skip (A.tn (A.seq (A.region (A.goA [.p, .p, .ld 0, .cq (i_ (oI (fd y.hi l))), .p] [(0, vS al l cl), (3, p_ b1), (4, p_ b2), (6, i_ (oI (fd y.hi l)))] [b1] (fun κ => κ.call 68 [vS al l cl, i_ y.hi] (i_ (oI (fd y.hi l))) ∧ True) (by kernel_rfl) ⟨(fun ww ss => fd_spec al l cl y.hi (by first | assumption | omega) ww ((rd_old r0 (by simp [feet])) ww ss)), trivial⟩ ?_))))
    refine A.tn (A.seq (A.seq ?_))
    by_cases ho : fd y.hi l = none
    · skip
      have hm := fd_no ho
      refine A.sub [(0, vS al l cl), (3, p_ b1), (4, p_ b2), (6, i_ (-1))] (by exact ⟨rfl, rfl, rfl, congrArg (fun z_ => some (i_ z_)) (by rw [ho]; rfl : (oI (fd y.hi l)) = -1), trivial⟩) ?_
      refine A.region (A.goA [.p, .p] [(0, vS al l cl), (3, p_ b1), (4, p_ b2), (6, i_ (-1)), (22, b_ true)] [] T0 (by kernel_rfl) trivial ?_)
      refine A.tn (A.cond_t rfl (A.seq (A.region (A.goAS [.p, .p, .st 1] [(4, p_ b2)] [blk b1 (encCl y) 98, blk b2 [vS al l cl, i_ 6] 113] [b2] T0 (by kernel_rfl) trivial ?_))))
      refine A.tn (A.ret (A.tr ?_))
      have hE_ : setER l y = 6 := by (clear hok; unfold setER; first | (simp_all [fd_ge, fd_neg, gcl]; done) | ((have hq_ := anyI_t (f := shB l y) (by assumption) (by unfold shB; assumption)); simp only [hq_]; first | (simp_all [gcl]; done) | grind [gcl]) | ((have hq_ := anyI_f hn (by omega)); simp only [hq_]; first | (simp_all [gcl]; done) | grind [gcl]) | grind [fd_ge, fd_neg, gcl])
      exact absurd (hE_.symm.trans hok) (by first | decide | assumption)
    · skip
      obtain ⟨i, hi⟩ := Option.ne_none_iff_exists'.1 ho; obtain ⟨x, hx, hm⟩ := fd_yes hi; have hlt := (List.getElem?_eq_some_iff.1 hx).1
      refine A.sub [(0, vS al l cl), (3, p_ b1), (4, p_ b2), (6, c_ i)] (by exact ⟨rfl, rfl, rfl, congrArg (fun z_ => some (i_ z_)) (by rw [hi]; rfl : (oI (fd y.hi l)) = (i : Int)), trivial⟩) ?_
      refine A.region (A.goA [.p, .p] [(0, vS al l cl), (3, p_ b1), (4, p_ b2), (6, c_ i), (22, b_ (decide ((i : Int) < 0)))] [] T0 (by kernel_rfl) trivial ?_)
      refine A.tn (A.cond (E := decide ((i : Int) < 0)) rfl (fun e2 => ?_) (fun e2 => ?_))
      · exact absurd e2 (by simp)
      · skip
        have p2 := of_decide_eq_false e2
        refine A.skip (A.tn (A.seq (A.seq (A.drawA [.p, .p, .ix, .p, .rd [i_ x.hp], .p, .ld 0, .p, .p, .o, .p, .p, .ix, .p, .rd [b_ x.hl], .p, .ld 0, .eq, .cl] [0, 1, 2, 3, 4, 5, 6, 7, 8, 9, 10, 11, 12, 13, 14, 15, 16, 17] [(0, vS al l cl), (3, p_ b1), (4, p_ b2), (42, b_ ((x.hp != y.hp) || (!(x.hl == y.hl))))] [b1, b1] (fun κ => κ.ix al l.length (i : Int) ∧ κ.rd (((at0 al).add (i * 14)).add 1) [i_ x.hp] ∧ ((true && ((x.hp != y.hp) == false)) = true → κ.ix al l.length (i : Int)) ∧ ((true && ((x.hp != y.hp) == false)) = true → κ.rd (((at0 al).add (i * 14)).add 2) [b_ x.hl]) ∧ True) (by kernel_rfl) (by kernel_rfl) ⟨(ixOf encCl_len (by decide) (rd_old r0 (by simp [feet])) (by first | omega | (simp; omega) | (simp; done))), reads_at2 (f := 1) (vs := [i_ x.hp]) encCl_len (rd_old r0 (by simp [feet])) hx (by simp) rfl, (fun h_ => (ixOf encCl_len (by decide) (rd_old r0 (by simp [feet])) (by first | omega | (simp; omega) | (simp; done)))), (fun h_ => (reads_at2 (f := 2) (vs := [b_ x.hl]) encCl_len (rd_old r0 (by simp [feet])) hx (by simp) rfl)), trivial⟩ ?_))))
        refine A.tn (A.cond (E := (x.hp != y.hp) || (!(x.hl == y.hl))) rfl (fun e3 => ?_) (fun e3 => ?_))
        · skip
          have p3 := e3; try simp only [nrm] at p3
          refine A.seq (A.region (A.goAS [.p, .p, .st 1] [(4, p_ b2)] [blk b1 (encCl y) 98, blk b2 [vS al l cl, i_ 1] 113] [b2] T0 (by kernel_rfl) trivial ?_))
          refine A.tn (A.ret (A.tr ?_))
          have hE_ : setER l y = 1 := by (clear hok; unfold setER; first | (simp_all [fd_ge, fd_neg, gcl]; done) | ((have hq_ := anyI_t (f := shB l y) (by assumption) (by unfold shB; assumption)); simp only [hq_]; first | (simp_all [gcl]; done) | grind [gcl]) | ((have hq_ := anyI_f hn (by omega)); simp only [hq_]; first | (simp_all [gcl]; done) | grind [gcl]) | grind [fd_ge, fd_neg, gcl])
          exact absurd (hE_.symm.trans hok) (by first | decide | assumption)
        · skip
          have p3 := e3; try simp only [nrm] at p3
          refine A.skip (A.tn (A.seq (A.region (A.goA [.p, .ld 0, .cq (i_ (ofR y.la y.lb y.lc)), .p, .p] [(0, vS al l cl), (3, p_ b1), (4, p_ b2), (7, b_ (decide ((ofR y.la y.lb y.lc) > 1)))] [b1] (fun κ => κ.call 97 [(.agg #[u_ y.la, u_ y.lb, u_ y.lc])] (i_ (ofR y.la y.lb y.lc)) ∧ True) (by kernel_rfl) ⟨(fun ww ss => rof_spec y.la y.lb y.lc ww), trivial⟩ ?_))))
          refine A.tn (A.seq (A.seq (A.region (A.goA [.p, .p, .o, .p, .p, .ld 0, .cq (b_ (shR l y.hp)), .p, .cl] [(0, vS al l cl), (3, p_ b1), (4, p_ b2), (7, b_ (decide ((ofR y.la y.lb y.lc) > 1))), (56, b_ ((decide ((ofR y.la y.lb y.lc) > 1)) && (!(shR l y.hp))))] [b1] (fun κ => ((true && ((decide ((ofR y.la y.lb y.lc) > 1)) == true)) = true → κ.call 145 [vS al l cl, i_ y.hp] (b_ (shR l y.hp))) ∧ True) (by kernel_rfl) ⟨(fun h_ => (fun ww ss => shR_spec al l cl y.hp (by first | assumption | omega) ww ((rd_old r0 (by simp [feet])) ww ss))), trivial⟩ ?_))))
          refine A.tn (A.cond (E := (decide ((ofR y.la y.lb y.lc) > 1)) && (!(shR l y.hp))) rfl (fun e4 => ?_) (fun e4 => ?_))
          · skip
            have p4 := e4; try simp only [nrm] at p4
            refine A.seq (A.region (A.goAS [.p, .p, .st 1] [(4, p_ b2)] [blk b1 (encCl y) 98, blk b2 [vS al l cl, i_ 29] 113] [b2] T0 (by kernel_rfl) trivial ?_))
            refine A.tn (A.ret (A.tr ?_))
            have hE_ : setER l y = 29 := by (clear hok; unfold setER; first | (simp_all [fd_ge, fd_neg, gcl]; done) | ((have hq_ := anyI_t (f := shB l y) (by assumption) (by unfold shB; assumption)); simp only [hq_]; first | (simp_all [gcl]; done) | grind [gcl]) | ((have hq_ := anyI_f hn (by omega)); simp only [hq_]; first | (simp_all [gcl]; done) | grind [gcl]) | grind [fd_ge, fd_neg, gcl])
            exact absurd (hE_.symm.trans hok) (by first | decide | assumption)
          · skip
            have p4 := e4; try simp only [nrm] at p4
            refine A.skip (A.tn (A.seq (A.seq (A.region (A.goP [.p, .p, .ld 0] [(0, vS al l cl), (3, p_ b1), (4, p_ b2), (7, b_ (decide ((ofR y.la y.lb y.lc) > 1))), (59, vS al l cl), (61, i_ y.hi)] [b1] T0 (by kernel_rfl) trivial ?_)))))
            refine A.cons (A.callT (some 62) [vS al l cl, i_ y.hi] [] ((fun zz => match zz with | (al'3, cl'4) => (vS al'3 (chR l y.hi) cl'4))) ((fun zz => match zz with | (al'3, cl'4) => True)) ((fun zz => match zz with | (al'3, cl'4) => [sI al'3 (chR l y.hi) cl'4])) (fun zz => match zz with | (al'3, cl'4) => [sI al'3 (chR l y.hi) cl'4, blk b1 (encCl y) 98, blk b2 [e_, i_ 0] 113]) (by kernel_rfl) rfl rfl (fun ww ss hh => chR_spec al l cl y.hi (by first | assumption | omega) ww ((rd_old r0 (by simp [feet])) ww ss) hh) (fun _ => rfl) ?_)
            rintro ⟨al'3, cl'4⟩ -
            refine A.goA [.p, .p] [(0, vS al l cl), (3, p_ b1), (4, p_ b2), (7, b_ (decide ((ofR y.la y.lb y.lc) > 1))), (62, vS al'3 (chR l y.hi) cl'4), (63, i_ ((chR l y.hi).length : Int)), (64, i_ 0)] [] T0 (by kernel_rfl) trivial ?_
            refine A.tn (A.block (A.loop (fun (zz : Nat) => match zz with | k => [(0, vS al l cl), (3, p_ b1), (4, p_ b2), (7, b_ (decide ((ofR y.la y.lb y.lc) > 1))), (62, vS al'3 (chR l y.hi) cl'4), (63, i_ ((chR l y.hi).length : Int)), (64, c_ k)]) (fun (zz : Nat) => match zz with | k => [sI al'3 (chR l y.hi) cl'4, blk b1 (encCl y) 98, blk b2 [e_, i_ 0] 113]) (fun (zz : Nat) => match zz with | k => (k ≤ (chR l y.hi).length) ∧ (∀ z ∈ (chR l y.hi).take k, shB l y z = false)) (fun (zz : Nat) => match zz with | k => (chR l y.hi).length - k) (0 : Nat) ⟨(by omega), (by simp)⟩ ?_ ?_))
            · exact A.hereK [0, 0, 0] (by exact ⟨rfl, rfl, rfl, rfl, rfl, rfl, rfl, trivial⟩) (by kernel_rfl)
            · rintro k ⟨hk, hn⟩
              have hkl := chR_len l y.hi
              refine A.norm [(0, vS al l cl), (3, p_ b1), (4, p_ b2), (7, b_ (decide ((ofR y.la y.lb y.lc) > 1))), (62, vS al'3 (chR l y.hi) cl'4), (63, i_ ((chR l y.hi).length : Int)), (64, c_ k)] [sI al'3 (chR l y.hi) cl'4, blk b1 (encCl y) 98, blk b2 [e_, i_ 0] 113] (by exact ⟨rfl, rfl, rfl, rfl, rfl, rfl, rfl, trivial⟩) rfl ?_
              refine A.seq (A.region (A.goA [.p] [(0, vS al l cl), (3, p_ b1), (4, p_ b2), (7, b_ (decide ((ofR y.la y.lb y.lc) > 1))), (62, vS al'3 (chR l y.hi) cl'4), (63, i_ ((chR l y.hi).length : Int)), (64, c_ k), (65, b_ (decide ((k : Int) < ((chR l y.hi).length : Int))))] [] T0 (by kernel_rfl) trivial ?_))
              refine A.tn (A.seq (A.cond (E := decide ((k : Int) < ((chR l y.hi).length : Int))) rfl (fun e6 => ?_) (fun e6 => ?_)))
              · skip
                have p6 := of_decide_eq_true e6
                refine A.skip (A.tn (A.seq (A.block (A.seq (A.region (A.goP [.ix] [(0, vS al l cl), (3, p_ b1), (4, p_ b2), (7, b_ (decide ((ofR y.la y.lb y.lc) > 1))), (62, vS al'3 (chR l y.hi) cl'4), (63, i_ ((chR l y.hi).length : Int)), (64, c_ k), (66, (.pointer (some ((at0 al'3).add (k * 1)))))] [] (fun κ => κ.ix al'3 ((chR l y.hi).length) (k : Int) ∧ True) (by kernel_rfl) ⟨(ixOf encI_len (by decide) (rd_sl (i := 0) rfl) (by first | omega | (simp; omega) | (simp; done))), trivial⟩ ?_))))))
                obtain ⟨x6, hx6⟩ : ∃ x, ((chR l y.hi))[k]? = some x := ⟨_, List.getElem?_eq_getElem (by omega)⟩
                refine A.goA [.rd [i_ x6], .p] [(0, vS al l cl), (3, p_ b1), (4, p_ b2), (7, b_ (decide ((ofR y.la y.lb y.lc) > 1))), (62, vS al'3 (chR l y.hi) cl'4), (63, i_ ((chR l y.hi).length : Int)), (64, c_ k), (9, i_ x6)] [] (fun κ => κ.rd ((at0 al'3).add (k * 1)) [i_ x6] ∧ True) (by kernel_rfl) ⟨(reads_at0 (vs := [i_ x6]) encI_len (rd_sl (i := 0) rfl) hx6 (Nat.le_of_ble_eq_true rfl) rfl), trivial⟩ ?_
                refine A.tn (A.seq (A.region (A.goA [.p, .p, .p, .o, .p, .p, .cq (b_ (shR l x6)), .cl] [(0, vS al l cl), (3, p_ b1), (4, p_ b2), (7, b_ (decide ((ofR y.la y.lb y.lc) > 1))), (62, vS al'3 (chR l y.hi) cl'4), (63, i_ ((chR l y.hi).length : Int)), (64, c_ k), (74, b_ ((!(decide ((ofR y.la y.lb y.lc) > 1))) && (shR l x6)))] [] (fun κ => ((true && ((!(decide ((ofR y.la y.lb y.lc) > 1))) == true)) = true → κ.call 145 [vS al l cl, i_ x6] (b_ (shR l x6))) ∧ True) (by kernel_rfl) ⟨(fun h_ => (fun ww ss => shR_spec al l cl x6 (by first | assumption | omega) ww ((rd_old r0 (by simp [feet])) ww ss))), trivial⟩ ?_)))
                refine A.tn (A.cond (E := (!(decide ((ofR y.la y.lb y.lc) > 1))) && (shR l x6)) rfl (fun e7 => ?_) (fun e7 => ?_))
                · skip
                  have p7 := e7; try simp only [nrm] at p7
                  refine A.seq (A.region (A.goAS [.p, .p, .st 2] [(4, p_ b2)] [sI al'3 (chR l y.hi) cl'4, blk b1 (encCl y) 98, blk b2 [vS al l cl, i_ 29] 113] [b2] T0 (by kernel_rfl) trivial ?_))
                  refine A.tn (A.ret (A.br (A.tr (A.tr (A.br (A.tr ?_))))))
                  have hE_ : setER l y = 29 := by (clear hok; unfold setER; first | (simp_all [fd_ge, fd_neg, gcl]; done) | ((have hq_ := anyI_t (f := shB l y) (by assumption) (by unfold shB; assumption)); simp only [hq_]; first | (simp_all [gcl]; done) | grind [gcl]) | ((have hq_ := anyI_f hn (by omega)); simp only [hq_]; first | (simp_all [gcl]; done) | grind [gcl]) | grind [fd_ge, fd_neg, gcl])
                  exact absurd (hE_.symm.trans hok) (by first | decide | assumption)
                · skip
                  have p7 := e7; try simp only [nrm] at p7
                  refine A.skip (A.bn (A.tn (A.region (A.goA [.w ((k : Int) + 1), .p] [(0, vS al l cl), (3, p_ b1), (4, p_ b2), (7, b_ (decide ((ofR y.la y.lb y.lc) > 1))), (62, vS al'3 (chR l y.hi) cl'4), (63, i_ ((chR l y.hi).length : Int)), (64, i_ ((k : Int) + 1))] [] (fun κ => (IntKind.i64.wrap ((k : Int) + 1) = ((k : Int) + 1)) ∧ True) (by kernel_rfl) ⟨(wrap_i64 (e := (k : Int) + 1) (by constructor <;> omega)), trivial⟩ ?_))))
                  refine A.tn (A.next (k + 1) ⟨(by omega), (by exact anyI_s hn (by assumption) (by unfold shB; simp_all))⟩ (by first | omega | (simp; omega) | (simp_all; omega)) ?_)
                  exact A.hereK [0, 0, 0] (by exact ⟨rfl, rfl, rfl, rfl, rfl, rfl, rfl, trivial⟩) (by kernel_rfl)
              · skip
                have p6 := of_decide_eq_false e6
                refine A.exit (A.te (A.te (A.bh (A.tn (A.seq (A.region (A.goP [.p, .ld 1] [(4, p_ b2), (78, vS al l cl), (79, (.agg (encCl y).toArray))] [b1] T0 (by kernel_rfl) trivial ?_)))))))
                refine A.cons (A.callT (some 80) [vS al l cl, (.agg (encCl y).toArray)] [] ((fun zz => match zz with | (al'7, cl'8) => (vS al'7 (setL y l) cl'8))) ((fun zz => match zz with | (al'7, cl'8) => True)) ((fun zz => match zz with | (al'7, cl'8) => [sCl al'7 (setL y l) cl'8])) (fun zz => match zz with | (al'7, cl'8) => [sCl al'7 (setL y l) cl'8, sI al'3 (chR l y.hi) cl'4, blk b1 (encCl y) 98, blk b2 [e_, i_ 0] 113]) (by kernel_rfl) rfl rfl (fun ww ss hh => put_spec al l cl y (by first | assumption | omega) ww ((rd_old r0 (by simp [feet])) ww ss) hh) (fun _ => rfl) ?_)
                rintro ⟨al'7, cl'8⟩ -
                refine A.goAS [.p, .st 3] [(4, p_ b2)] [sCl al'7 (setL y l) cl'8, sI al'3 (chR l y.hi) cl'4, blk b1 (encCl y) 98, blk b2 [vS al'7 (setL y l) cl'8, i_ 0] 113] [b2] T0 (by kernel_rfl) trivial ?_
                refine A.tn (A.ret ?_)
                have hE_ : setER l y = 0 := by (clear hok; unfold setER; first | (simp_all [fd_ge, fd_neg, gcl]; done) | ((have hq_ := anyI_t (f := shB l y) (by assumption) (by unfold shB; assumption)); simp only [hq_]; first | (simp_all [gcl]; done) | grind [gcl]) | ((have hq_ := anyI_f hn (by omega)); simp only [hq_]; first | (simp_all [gcl]; done) | grind [gcl]) | grind [fd_ge, fd_neg, gcl])
                refine A.setH [sCl al'7 (setLR l y) cl'8, sI al'3 (chR l y.hi) cl'4, blk b1 (encCl y) 98, blk b2 [vS al'7 (setL y l) cl'8, i_ 0] 113] (cc (slC (by first | rfl | exact (setLR_ok hok).symm : (setL y l) = (setLR l y))) rfl) ?_
                refine A.postK [0] [(.agg #[vS al'7 (setL y l) cl'8, i_ 0])] (fun aa ww rr ss => ⟨rv_cellN (vs := [vS al'7 (setL y l) cl'8, i_ 0]) rr ss rfl (by kernel_rfl) (reads_blk (i := 3) rfl rfl), trivial⟩) (al'7, cl'8) ?_ ?_ (by kernel_rfl)
                · show ((.agg #[vS al'7 (setL y l) cl'8, i_ 0]) : Value) = (.agg #[vS al'7 (setLR l y) cl'8, i_ 0])
                  first | rfl | (rw [hE_]; done) | (rw [List.take_of_length_le (by omega), setLR_ok hok]; done) | (rw [setLR_ok hok]; done)
                · trivial
end Go.Proofs.Ytinnnoimmioaiaa
