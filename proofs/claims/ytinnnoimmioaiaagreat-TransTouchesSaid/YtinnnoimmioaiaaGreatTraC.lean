/- What the functions of this layer do, proved operation by operation, for all arguments, under the conditions that each theorem states. -/
import Derived.Test.YtinnnoimmioaiaaGreatProg
import Derived.Test.YtinnnoimmioaiaaGreatTraK
import Derived.Test.YtinnnoimmioaiaaGreatL2
namespace Go.Proofs.YtinnnoimmioaiaaGreat
open Go V
set_option linter.unusedVariables false
set_option linter.unusedSimpArgs false
set_option maxHeartbeats 4000000
set_option maxRecDepth 100000

theorem transTouches_walk (a0 : Option Addr) (b : List Zc) (c0 : Nat) (al : Option Addr) (l : List Zc) (cl : Nat) (hb : ∀ z ∈ b, ZcOk z) (hz : ∀ z ∈ l, ZcOk z) (w : World) (r0 : arrAt w a0 (V.flat encZc b)) (r1 : arrAt w al (V.flat encZc l)) :
    Calls Tryz.prog 4 #[vS a0 b c0, vS al l cl] w fun e w' => e = .returned (b_ true) ∧ Fr [] w w' := by
  obtain ⟨hKb, hLb⟩ := kr_aps hb; have hll := hLb.len; have hkl := kr_len hKb; have hAb : AOk (apK [] b) := ⟨_, hKb⟩; have hnil : (apR [] b).length ≤ 64 := by omega
  obtain ⟨hKl, hLl⟩ := kr_aps hz; have hll2 := hLl.len; have hkl2 := kr_len hKl; have htl := tch_len (apK [] b) (apK [] l); have htm := tch_len (apK [] l) (apK [] b); have hto := tch_len (apK [] b) (apK [] b); have htn := tch_len [] (apK [] b); have hidl := ids_len hKb hLb
  refine calls_of (args := [vS a0 b c0, vS al l cl]) (penv [vS a0 b c0, vS al l cl]) [] [] Tryz.func4 rfl rfl (look_penv _) (HS.nil w) ?_
  refine A.sr (A.g [.p] [] [] ?_)
  refine A.tn (A.seq (A.sr (A.g [.p, .p, .p, .p, .o, .p, .p, .p, .cl] [] [(18, b_ ((decide ((b.length : Int) > 80)) || (decide ((l.length : Int) > 80))))] ?_)))
  refine A.tn (A.cn ((decide ((b.length : Int) > 80)) || (decide ((l.length : Int) > 80))) (fun e1 => ?_) (fun e1 => ?_))
  · have p1 := e1; try simp only [nrm] at p1
    refine A.sr (A.gk [.cq (b_ true), .p] [0, 1, 18] [(4, b_ true)] [] (fun κ => κ.call 7 [] (b_ true) ∧ True) ⟨(fun ww ss => twice_spec ww), trivial⟩ ?_)
    refine A.tn (A.ret (A.tr (A.pQ [b_ true] ?_)))
    rfl
  have p1 := e1; try simp only [nrm] at p1
  refine A.skip (tsr (A.gp [.p] [0, 18] [(21, vS a0 b c0)] ?_))
  refine A.cons (A.cT (some 22) [vS a0 b c0] [] ((fun (zz : Nat × Nat × Option Addr × Nat) => match zz with | (bt1, mb2, ao3, co4) => (.tuple #[p_ bt1, vS ao3 (apR [] b) co4]))) ((fun (zz : Nat × Nat × Option Addr × Nat) => match zz with | (bt1, mb2, ao3, co4) => True)) ((fun (zz : Nat × Nat × Option Addr × Nat) => match zz with | (bt1, mb2, ao3, co4) => [blk bt1 [(.map (some mb2))] 77, mHI mb2 (apK [] b), sCl ao3 (apR [] b) co4])) (fun ww ss hh => tree_spec a0 b c0 (by omega) (by assumption) ww ((rd_old r0 (by simp [feet])) ww ss) hh) ?_)
  rintro ⟨bt1, mb2, ao3, co4⟩ -
  refine A.g [.p, .p, .p, .p, .p] [21, 22] [(5, p_ bt1), (6, vS ao3 (apR [] b) co4)] ?_
  refine tsr (A.gp [.p] [1] [(26, vS al l cl)] ?_)
  refine A.cons (A.cT (some 27) [vS al l cl] [] ((fun (zz : Nat × Nat × Option Addr × Nat) => match zz with | (bt6, mb7, ao8, co9) => (.tuple #[p_ bt6, vS ao8 (apR [] l) co9]))) ((fun (zz : Nat × Nat × Option Addr × Nat) => match zz with | (bt6, mb7, ao8, co9) => True)) ((fun (zz : Nat × Nat × Option Addr × Nat) => match zz with | (bt6, mb7, ao8, co9) => [blk bt6 [(.map (some mb7))] 77, mHI mb7 (apK [] l), sCl ao8 (apR [] l) co9])) (fun ww ss hh => tree_spec al l cl (by omega) (by assumption) ww ((rd_old r1 (by simp [feet])) ww ss) hh) ?_)
  rintro ⟨bt6, mb7, ao8, co9⟩ -
  refine A.g [.p, .p, .p, .p, .p] [26, 27] [(7, p_ bt6), (8, vS ao8 (apR [] l) co9)] ?_
  refine tsr (A.gp [.p, .p] [] [(30, p_ bt1), (31, p_ bt6)] ?_)
  refine A.cons (A.cT (some 32) [p_ bt1, p_ bt6] [] ((fun zz => match zz with | (al'11, cl'12) => (vS al'11 (tchL (apK [] b) (apK [] l)) cl'12))) ((fun zz => match zz with | (al'11, cl'12) => True)) ((fun zz => match zz with | (al'11, cl'12) => [sI al'11 (tchL (apK [] b) (apK [] l)) cl'12])) (fun ww ss hh => tch_ok bt1 mb2 (apK [] b) bt6 mb7 (apK [] l) (by assumption) (by assumption) ww (ss.mem (i := 3) rfl) (ss.mem (i := 4) rfl) (ss.mem (i := 0) rfl) (ss.mem (i := 1) rfl) hh) ?_)
  rintro ⟨al'11, cl'12⟩ -
  refine A.g [.p] [30, 31, 32] [(9, vS al'11 (tchL (apK [] b) (apK [] l)) cl'12)] ?_
  refine tsr (A.g [.p] [] [(10, n_)] ?_)
  refine tsr (A.gp [.p, .p, .p] [] [(33, vS al'11 (tchL (apK [] b) (apK [] l)) cl'12), (34, vS ao3 (apR [] b) co4), (35, vS ao8 (apR [] l) co9)] ?_)
  refine A.cons (A.cT (some 36) [vS ao3 (apR [] b) co4, vS ao8 (apR [] l) co9] [] ((fun zz => match zz with | (al'14, cl'15) => (vS al'14 (tchL (apK [] b) (apK [] l)) cl'15))) ((fun zz => match zz with | (al'14, cl'15) => True)) ((fun zz => match zz with | (al'14, cl'15) => [sI al'14 (tchL (apK [] b) (apK [] l)) cl'15])) (fun ww ss hh => rtch_spec (apK [] b) (apK [] l) ao3 (apR [] b) co4 ao8 (apR [] l) co9 (by assumption) (by omega) (by assumption) (by assumption) ww ((rd_sl (i := 6) rfl) ww ss) ((rd_sl (i := 3) rfl) ww ss) hh) ?_)
  rintro ⟨al'14, cl'15⟩ -
  refine A.gpk [.cq (b_ ((tchL (apK [] b) (apK [] l)) == (tchL (apK [] b) (apK [] l)))), .p] [33, 34, 35, 36] [(38, b_ ((tchL (apK [] b) (apK [] l)) == (tchL (apK [] b) (apK [] l))))] [] (fun κ => κ.call 13 [vS al'11 (tchL (apK [] b) (apK [] l)) cl'12, vS al'14 (tchL (apK [] b) (apK [] l)) cl'15] (b_ ((tchL (apK [] b) (apK [] l)) == (tchL (apK [] b) (apK [] l)))) ∧ True) ⟨(fun ww ss => ints_spec al'11 (tchL (apK [] b) (apK [] l)) cl'12 al'14 (tchL (apK [] b) (apK [] l)) cl'15 (by omega) ww ((rd_sl (i := 1) rfl) ww ss) ((rd_sl (i := 0) rfl) ww ss)), trivial⟩ ?_
  refine A.bool (((tchL (apK [] b) (apK [] l)) == (tchL (apK [] b) (apK [] l)))) (fun e6 => ?_) (fun e6 => ?_)
  · refine A.sv 38 (b_ true) (cgB e6) ?_
    refine A.gp [.p, .p] [] [(39, p_ bt6), (40, p_ bt1)] ?_
    refine A.cons (A.cT (some 41) [p_ bt6, p_ bt1] [] ((fun zz => match zz with | (al'17, cl'18) => (vS al'17 (tchL (apK [] l) (apK [] b)) cl'18))) ((fun zz => match zz with | (al'17, cl'18) => True)) ((fun zz => match zz with | (al'17, cl'18) => [sI al'17 (tchL (apK [] l) (apK [] b)) cl'18])) (fun ww ss hh => tch_ok bt6 mb7 (apK [] l) bt1 mb2 (apK [] b) (by assumption) (by assumption) ww (ss.mem (i := 2) rfl) (ss.mem (i := 3) rfl) (ss.mem (i := 5) rfl) (ss.mem (i := 6) rfl) hh) ?_)
    rintro ⟨al'17, cl'18⟩ -
    refine A.gpk [.p, .cq (b_ ((tchL (apK [] l) (apK [] b)) == (tchL (apK [] b) (apK [] l)))), .p, .p] [9, 38, 39, 40, 41] [(45, b_ ((tchL (apK [] l) (apK [] b)) == (tchL (apK [] b) (apK [] l))))] [] (fun κ => κ.call 13 [vS al'17 (tchL (apK [] l) (apK [] b)) cl'18, vS al'11 (tchL (apK [] b) (apK [] l)) cl'12] (b_ ((tchL (apK [] l) (apK [] b)) == (tchL (apK [] b) (apK [] l)))) ∧ True) ⟨(fun ww ss => ints_spec al'17 (tchL (apK [] l) (apK [] b)) cl'18 al'11 (tchL (apK [] b) (apK [] l)) cl'12 (by omega) ww ((rd_sl (i := 0) rfl) ww ss) ((rd_sl (i := 2) rfl) ww ss)), trivial⟩ ?_
    refine A.bool (((tchL (apK [] l) (apK [] b)) == (tchL (apK [] b) (apK [] l)))) (fun e8 => ?_) (fun e8 => ?_)
    · refine A.sv 45 (b_ true) (cgB e8) ?_
      refine A.gpk [.p, .p, .cq (b_ ((tchL (apK [] b) (apK [] l)).any (relB (apK [] b) (apK [] l)))), .p, .p] [6, 7, 8] [(48, b_ ((tchL (apK [] b) (apK [] l)).any (relB (apK [] b) (apK [] l)))), (49, vS ao3 (apR [] b) co4), (50, vS ao8 (apR [] l) co9)] [] (fun κ => κ.call 15 [p_ bt1, p_ bt6] (b_ ((tchL (apK [] b) (apK [] l)).any (relB (apK [] b) (apK [] l)))) ∧ True) ⟨(fun ww ss => rel_ok bt1 mb2 (apK [] b) bt6 mb7 (apK [] l) (by assumption) (by assumption) ww (ss.mem (i := 6) rfl) (ss.mem (i := 7) rfl) (ss.mem (i := 3) rfl) (ss.mem (i := 4) rfl)), trivial⟩ ?_
      refine A.cons (A.cT (some 51) [vS ao3 (apR [] b) co4, vS ao8 (apR [] l) co9] [] ((fun _ => (b_ ((tchL (apK [] b) (apK [] l)).any (relB (apK [] b) (apK [] l)))))) ((fun _ => True)) ((fun _ => [])) (fun ww ss hh => rrel_spec (apK [] b) (apK [] l) ao3 (apR [] b) co4 ao8 (apR [] l) co9 (by assumption) (by omega) (by assumption) (by assumption) ww ((rd_sl (i := 8) rfl) ww ss) ((rd_sl (i := 5) rfl) ww ss) hh) ?_)
      rintro ⟨⟩ -
      refine A.gp [.eq, .p, .p] [45, 48, 49, 50, 51] [(54, b_ (((tchL (apK [] b) (apK [] l)).any (relB (apK [] b) (apK [] l))) == ((tchL (apK [] b) (apK [] l)).any (relB (apK [] b) (apK [] l)))))] ?_
      refine A.bool (((tchL (apK [] b) (apK [] l)).any (relB (apK [] b) (apK [] l))) == ((tchL (apK [] b) (apK [] l)).any (relB (apK [] b) (apK [] l)))) (fun e10 => ?_) (fun e10 => ?_)
      · refine A.sv 54 (b_ true) (cgB e10) ?_
        refine A.gp [.p, .p] [] [(55, p_ bt1), (56, p_ bt1)] ?_
        refine A.cons (A.cT (some 57) [p_ bt1, p_ bt1] [] ((fun zz => match zz with | (al'20, cl'21) => (vS al'20 (tchL (apK [] b) (apK [] b)) cl'21))) ((fun zz => match zz with | (al'20, cl'21) => True)) ((fun zz => match zz with | (al'20, cl'21) => [sI al'20 (tchL (apK [] b) (apK [] b)) cl'21])) (fun ww ss hh => tch_ok bt1 mb2 (apK [] b) bt1 mb2 (apK [] b) (by assumption) (by assumption) ww (ss.mem (i := 6) rfl) (ss.mem (i := 7) rfl) (ss.mem (i := 6) rfl) (ss.mem (i := 7) rfl) hh) ?_)
        rintro ⟨al'20, cl'21⟩ -
        refine A.gp [.p, .p, .p, .p] [54, 55, 56, 57] [(61, b_ (((tchL (apK [] b) (apK [] b)).length : Int) == 0))] ?_
        refine A.bool (((tchL (apK [] b) (apK [] b)).length : Int) == 0) (fun e12 => ?_) (fun e12 => ?_)
        · refine A.sv 61 (b_ true) (cgB e12) ?_
          refine A.gp [.p, .p] [10] [(62, n_), (63, p_ bt1)] ?_
          refine A.cons (A.cT (some 64) [n_, p_ bt1] [] ((fun zz => match zz with | (al'23, cl'24) => (vS al'23 (tchL [] (apK [] b)) cl'24))) ((fun zz => match zz with | (al'23, cl'24) => True)) ((fun zz => match zz with | (al'23, cl'24) => [sI al'23 (tchL [] (apK [] b)) cl'24])) (fun ww ss hh => tch_nilL bt1 mb2 (apK [] b) (by assumption) ww (ss.mem (i := 7) rfl) (ss.mem (i := 8) rfl) hh) ?_)
          rintro ⟨al'23, cl'24⟩ -
          refine A.gp [.p] [5, 62, 63] [(64, vS al'23 (tchL [] (apK [] b)) cl'24), (65, p_ bt1)] ?_
          refine A.cons (A.cT (some 66) [p_ bt1] [] ((fun zz => match zz with | (al'26, cl'27) => (vS al'26 (keysF (apK [] b) (fun v_ => true)) cl'27))) ((fun zz => match zz with | (al'26, cl'27) => True)) ((fun zz => match zz with | (al'26, cl'27) => [sI al'26 (keysF (apK [] b) (fun v_ => true)) cl'27])) (fun ww ss hh => ids_ok bt1 mb2 (apK [] b) (by omega) ww (ss.mem (i := 8) rfl) (ss.mem (i := 9) rfl) hh) ?_)
          rintro ⟨al'26, cl'27⟩ -
          refine A.gk [.cq (b_ ((tchL [] (apK [] b)) == (keysF (apK [] b) (fun v_ => true)))), .p, .p, .o, .cq (b_ true), .cl, .p] [61, 64, 65, 66] [(4, b_ (((tchL [] (apK [] b)) == (keysF (apK [] b) (fun v_ => true))) && true))] [] (fun κ => κ.call 13 [vS al'23 (tchL [] (apK [] b)) cl'24, vS al'26 (keysF (apK [] b) (fun v_ => true)) cl'27] (b_ ((tchL [] (apK [] b)) == (keysF (apK [] b) (fun v_ => true)))) ∧ ((true && (((tchL [] (apK [] b)) == (keysF (apK [] b) (fun v_ => true))) == true)) = true → κ.call 7 [] (b_ true)) ∧ True) ⟨(fun ww ss => ints_spec al'23 (tchL [] (apK [] b)) cl'24 al'26 (keysF (apK [] b) (fun v_ => true)) cl'27 (by (simp at *; omega)) ww ((rd_sl (i := 1) rfl) ww ss) ((rd_sl (i := 0) rfl) ww ss)), (fun h_ => (fun ww ss => twice_spec ww)), trivial⟩ ?_
          refine A.tn (A.ret (A.pQ [b_ (((tchL [] (apK [] b)) == (keysF (apK [] b) (fun v_ => true))) && true)] ?_))
          show ((b_ (((tchL [] (apK [] b)) == (keysF (apK [] b) (fun v_ => true))) && true)) : Value) = (b_ true)
          (refine congrArg Value.bool ?_; simp only [tch_sw (apK [] b) (apK [] l), tch_same, tch_none hKb]; simp)
        exact absurd e12 (by ((simp only [tch_sw (apK [] b) (apK [] l), tch_same, tch_none hKb]; simp)))
      exact absurd e10 (by simp)
    exact absurd e8 (by ((simp only [tch_sw (apK [] b) (apK [] l), tch_same, tch_none hKb]; simp)))
  exact absurd e6 (by ((simp; done)))
end Go.Proofs.YtinnnoimmioaiaaGreat
