/- What the functions of this layer do, proved operation by operation, for all arguments, under the conditions that each theorem states. -/
import Derived.Test.YtinnnoimmioaiaaGreatProg
import Derived.Test.YtinnnoimmioaiaaGreatTraK
import Derived.Test.YtinnnoimmioaiaaGreatL2
namespace Go.Proofs.YtinnnoimmioaiaaGreat
open Go V
set_option linter.unusedVariables false
set_option linter.unusedSimpArgs false
set_option maxHeartbeats 4000000
set_option maxRecDepth 100000

theorem transJoins_walk (a0 : Option Addr) (b : List Zc) (c0 : Nat) (al : Option Addr) (l : List Zc) (cl : Nat) (cut : Int) (hb : ∀ z ∈ b, ZcOk z) (hz : ∀ z ∈ l, ZcOk z) (hcap : l.length ≤ cl) (w : World) (r0 : arrAt w a0 (V.flat encZc b)) (r1 : arrAt w al (V.flat encZc l)) :
    Calls Tryz.prog 6 #[vS a0 b c0, vS al l cl, i_ cut] w fun e w' => e = .returned (b_ true) ∧ Fr [] w w' := by
  obtain ⟨hKb, hLb⟩ := kr_aps hb; have hll := hLb.len; have hkl := kr_len hKb; have hAb : AOk (apK [] b) := ⟨_, hKb⟩; have hnil : (apR [] b).length ≤ 64 := by omega
  refine calls_of (args := [vS a0 b c0, vS al l cl, i_ cut]) (penv [vS a0 b c0, vS al l cl, i_ cut]) [] [] Tryz.func6 rfl rfl (look_penv _) (HS.nil w) ?_
  refine A.sr (A.g [.p] [] [] ?_)
  refine A.tn (A.seq (A.sr (A.g [.p, .p, .p, .p, .o, .p, .p, .p, .cl, .p, .o, .p, .p, .cl, .p, .o, .p, .p, .p, .p, .cl] [] [(35, b_ ((((decide ((b.length : Int) > 80)) || (decide ((l.length : Int) > 32))) || (decide (cut < 0))) || (decide (cut > (l.length : Int)))))] ?_)))
  refine A.tn (A.cn ((((decide ((b.length : Int) > 80)) || (decide ((l.length : Int) > 32))) || (decide (cut < 0))) || (decide (cut > (l.length : Int)))) (fun e1 => ?_) (fun e1 => ?_))
  · have p1 := e1; try simp only [nrm] at p1
    refine A.sr (A.gk [.cq (b_ true), .p] [0, 1, 2, 35] [(6, b_ true)] [] (fun κ => κ.call 7 [] (b_ true) ∧ True) ⟨(fun ww ss => twice_spec ww), trivial⟩ ?_)
    refine A.tn (A.ret (A.tr (A.pQ [b_ true] ?_)))
    rfl
  have p1 := e1; try simp only [nrm] at p1
  refine A.skip (A.tn (A.seq ?_))
  obtain ⟨m, hm⟩ : ∃ m : Nat, cut = (m : Int) := ⟨cut.toNat, by omega⟩; have hml : m ≤ l.length := (by omega); have hzt : ∀ z ∈ l.take m, ZcOk z := fun z h => hz z (List.mem_of_mem_take h); have hzd : ∀ z ∈ l.drop m, ZcOk z := fun z h => hz z (List.mem_of_mem_drop h)
  refine A.sv 2 (c_ m) (cgI (by exact hm)) ?_
  refine A.region (A.gp [.p] [0, 35] [(38, vS a0 b c0)] ?_)
  refine A.cons (A.cT (some 39) [vS a0 b c0] [] ((fun (zz : Nat × Nat × Option Addr × Nat) => match zz with | (bt1, mb2, ao3, co4) => (.tuple #[p_ bt1, vS ao3 (apR [] b) co4]))) ((fun (zz : Nat × Nat × Option Addr × Nat) => match zz with | (bt1, mb2, ao3, co4) => True)) ((fun (zz : Nat × Nat × Option Addr × Nat) => match zz with | (bt1, mb2, ao3, co4) => [blk bt1 [(.map (some mb2))] 77, mHI mb2 (apK [] b), sCl ao3 (apR [] b) co4])) (fun ww ss hh => tree_spec a0 b c0 (by omega) (by assumption) ww ((rd_old r0 (by simp [feet])) ww ss) hh) ?_)
  rintro ⟨bt1, mb2, ao3, co4⟩ -
  refine A.g [.p, .p, .p, .p, .p] [38, 39] [(7, p_ bt1)] ?_
  refine A.tn (A.seq ?_)
  by_cases h1 : trE (apK [] b) 3 (l.take m) = 0
  · obtain ⟨hK1, hL1⟩ : KR (apK (apK [] b) (l.take m)) (apR (apR [] b) (l.take m)) ∧ Laid (apK (apK [] b) (l.take m)) := ⟨kr_ap hKb hLb hzt, laid_ap hLb⟩; have hl1 := hL1.len; have hA1 : AOk (apK (apK [] b) (l.take m)) := ⟨_, hK1⟩; have hi1 := ids_len hK1 hL1
    refine A.region (A.gp [.p, .p, .p] [] [(43, p_ bt1), (44, vS al l cl), (45, c_ m)] ?_)
    refine A.cons (A.q (some 46) (vS al (l.take m) cl) (by kernel_rfl) (qt_takeS (e := 50) (xs := l) (sz := 15) m rfl rfl rfl (by kernel_rfl) (by kernel_rfl) (by omega) (fun _ _ => hcap)) ?_)
    refine A.cons (A.cT (some 47) [p_ bt1, i_ 3, vS al (l.take m) cl] [] ((fun zz => match zz with | (bc6, mc7) => (.tuple #[p_ bc6, i_ 0, i_ 0]))) ((fun zz => match zz with | (bc6, mc7) => True)) ((fun zz => match zz with | (bc6, mc7) => [blk bc6 [(.map (some mc7))] 77, mHI mc7 (apK (apK [] b) (l.take m))])) (fun ww ss hh => app_ok bt1 mb2 (apK [] b) 3 al (l.take m) cl (by assumption) (by assumption) (by assumption) (by assumption) ww (ss.mem (i := 0) rfl) (ss.mem (i := 1) rfl) ((rd_take encZc_len (rd_old r1 (by simp [feet])) m) ww ss) hh) ?_)
    rintro ⟨bc6, mc7⟩ -
    refine A.g [.p, .p, .p, .p, .p, .p, .p] [43, 44, 45, 46, 47] [(9, p_ bc6), (11, i_ 0)] ?_
    refine A.tn (A.seq (A.sr (A.g [.p, .p] [11] [(52, b_ false)] ?_)))
    refine A.tn (A.cf (A.skip (A.tn (A.seq ?_))))
    by_cases h2 : trE (apK (apK [] b) (l.take m)) 3 (l.drop m) = 0
    · obtain ⟨hK2, hL2⟩ : KR (apK (apK (apK [] b) (l.take m)) (l.drop m)) (apR (apR (apR [] b) (l.take m)) (l.drop m)) ∧ Laid (apK (apK (apK [] b) (l.take m)) (l.drop m)) := ⟨kr_ap hK1 hL1 hzd, laid_ap hL1⟩; have hl2 := hL2.len; have hi2 := ids_len hK2 hL2; have hK4 : KR (apK (apK [] b) l) (apR (apR [] b) l) := kr_ap hKb hLb hz; have hL4 : Laid (apK (apK [] b) l) := laid_ap hLb; have hl4 := hL4.len; have hi4 := ids_len hK4 hL4; have htj := tch_len (apK (apK (apK [] b) (l.take m)) (l.drop m)) (apK (apK [] b) l)
      refine A.region (A.gp [.p, .p, .p] [2, 9, 52] [(59, p_ bc6), (60, vS al l cl), (61, c_ m)] ?_)
      refine A.cons (A.q (some 62) (vS (cutA al cl m 15) (l.drop m) (cl - m)) (by kernel_rfl) (qt_dropS (e := 50) (xs := l) (sz := 15) m rfl rfl rfl (by kernel_rfl) (by kernel_rfl) (by omega) (fun _ _ => hcap)) ?_)
      refine A.cons (A.cT (some 63) [p_ bc6, i_ 3, vS (cutA al cl m 15) (l.drop m) (cl - m)] [] ((fun zz => match zz with | (bc8, mc9) => (.tuple #[p_ bc8, i_ 0, i_ 0]))) ((fun zz => match zz with | (bc8, mc9) => True)) ((fun zz => match zz with | (bc8, mc9) => [blk bc8 [(.map (some mc9))] 77, mHI mc9 (apK (apK (apK [] b) (l.take m)) (l.drop m))])) (fun ww ss hh => app_ok bc6 mc7 (apK (apK [] b) (l.take m)) 3 (cutA al cl m 15) (l.drop m) (cl - m) (by assumption) (by assumption) (by assumption) (by assumption) ww (ss.mem (i := 0) rfl) (ss.mem (i := 1) rfl) ((rd_drop encZc_len (rd_old r1 (by simp [feet])) (by omega) (fun _ _ => hcap)) ww ss) hh) ?_)
      rintro ⟨bc8, mc9⟩ -
      refine A.g [.p, .p, .p, .p, .p, .p, .p] [59, 60, 61, 62, 63] [(12, p_ bc8), (14, i_ 0)] ?_
      refine A.tn (A.seq (A.sr (A.g [.p, .p] [14] [(68, b_ false)] ?_)))
      refine A.tn (A.cf (A.skip (A.tn (A.seq ?_))))
      obtain ⟨hj1, hj2⟩ := tr_join h1 h2 (by omega)
      refine A.region (A.gp [.p, .p] [1, 7, 68] [(75, p_ bt1), (76, vS al l cl)] ?_)
      refine A.cons (A.cT (some 77) [p_ bt1, i_ 3, vS al l cl] [] ((fun zz => match zz with | (bc10, mc11) => (.tuple #[p_ bc10, i_ 0, i_ 0]))) ((fun zz => match zz with | (bc10, mc11) => True)) ((fun zz => match zz with | (bc10, mc11) => [blk bc10 [(.map (some mc11))] 77, mHI mc11 (apK (apK [] b) l)])) (fun ww ss hh => app_ok bt1 mb2 (apK [] b) 3 al l cl (by assumption) (by assumption) (by assumption) (by assumption) ww (ss.mem (i := 4) rfl) (ss.mem (i := 5) rfl) ((rd_old r1 (by simp [feet])) ww ss) hh) ?_)
      rintro ⟨bc10, mc11⟩ -
      refine A.g [.p, .p, .p, .p, .p, .p, .p] [75, 76, 77] [(15, p_ bc10), (16, i_ 0), (17, i_ 0)] ?_
      refine tsr (A.gp [.p, .p, .p, .p, .p, .p, .p, .p, .p, .p, .p, .p, .p] [16, 17] [(91, b_ true), (92, p_ bc8), (93, p_ bc10)] ?_)
      refine A.cons (A.cT (some 94) [p_ bc8, p_ bc10] [] ((fun zz => match zz with | (al'12, cl'13) => (vS al'12 (tchL (apK (apK (apK [] b) (l.take m)) (l.drop m)) (apK (apK [] b) l)) cl'13))) ((fun zz => match zz with | (al'12, cl'13) => True)) ((fun zz => match zz with | (al'12, cl'13) => [sI al'12 (tchL (apK (apK (apK [] b) (l.take m)) (l.drop m)) (apK (apK [] b) l)) cl'13])) (fun ww ss hh => tch_ok bc8 mc9 (apK (apK (apK [] b) (l.take m)) (l.drop m)) bc10 mc11 (apK (apK [] b) l) (by assumption) (by assumption) ww (ss.mem (i := 2) rfl) (ss.mem (i := 3) rfl) (ss.mem (i := 0) rfl) (ss.mem (i := 1) rfl) hh) ?_)
      rintro ⟨al'12, cl'13⟩ -
      refine A.gp [.p, .p, .p, .p] [91, 92, 93, 94] [(98, b_ (((tchL (apK (apK (apK [] b) (l.take m)) (l.drop m)) (apK (apK [] b) l)).length : Int) == 0))] ?_
      refine A.bool (((tchL (apK (apK (apK [] b) (l.take m)) (l.drop m)) (apK (apK [] b) l)).length : Int) == 0) (fun e7 => ?_) (fun e7 => ?_)
      · refine A.sv 98 (b_ true) (cgB e7) ?_
        refine A.gp [.p] [12] [(99, p_ bc8)] ?_
        refine A.cons (A.cT (some 100) [p_ bc8] [] ((fun zz => match zz with | (al'15, cl'16) => (vS al'15 (keysF (apK (apK (apK [] b) (l.take m)) (l.drop m)) (fun v_ => true)) cl'16))) ((fun zz => match zz with | (al'15, cl'16) => True)) ((fun zz => match zz with | (al'15, cl'16) => [sI al'15 (keysF (apK (apK (apK [] b) (l.take m)) (l.drop m)) (fun v_ => true)) cl'16])) (fun ww ss hh => ids_ok bc8 mc9 (apK (apK (apK [] b) (l.take m)) (l.drop m)) (by omega) ww (ss.mem (i := 3) rfl) (ss.mem (i := 4) rfl) hh) ?_)
        rintro ⟨al'15, cl'16⟩ -
        refine A.gp [.p] [15, 99] [(100, vS al'15 (keysF (apK (apK (apK [] b) (l.take m)) (l.drop m)) (fun v_ => true)) cl'16), (101, p_ bc10)] ?_
        refine A.cons (A.cT (some 102) [p_ bc10] [] ((fun zz => match zz with | (al'18, cl'19) => (vS al'18 (keysF (apK (apK [] b) l) (fun v_ => true)) cl'19))) ((fun zz => match zz with | (al'18, cl'19) => True)) ((fun zz => match zz with | (al'18, cl'19) => [sI al'18 (keysF (apK (apK [] b) l) (fun v_ => true)) cl'19])) (fun ww ss hh => ids_ok bc10 mc11 (apK (apK [] b) l) (by omega) ww (ss.mem (i := 2) rfl) (ss.mem (i := 3) rfl) hh) ?_)
        rintro ⟨al'18, cl'19⟩ -
        refine A.gk [.cq (b_ ((keysF (apK (apK (apK [] b) (l.take m)) (l.drop m)) (fun v_ => true)) == (keysF (apK (apK [] b) l) (fun v_ => true)))), .p, .p, .o, .cq (b_ true), .cl, .p] [98, 100, 101, 102] [(6, b_ (((keysF (apK (apK (apK [] b) (l.take m)) (l.drop m)) (fun v_ => true)) == (keysF (apK (apK [] b) l) (fun v_ => true))) && true))] [] (fun κ => κ.call 13 [vS al'15 (keysF (apK (apK (apK [] b) (l.take m)) (l.drop m)) (fun v_ => true)) cl'16, vS al'18 (keysF (apK (apK [] b) l) (fun v_ => true)) cl'19] (b_ ((keysF (apK (apK (apK [] b) (l.take m)) (l.drop m)) (fun v_ => true)) == (keysF (apK (apK [] b) l) (fun v_ => true)))) ∧ ((true && (((keysF (apK (apK (apK [] b) (l.take m)) (l.drop m)) (fun v_ => true)) == (keysF (apK (apK [] b) l) (fun v_ => true))) == true)) = true → κ.call 7 [] (b_ true)) ∧ True) ⟨(fun ww ss => ints_spec al'15 (keysF (apK (apK (apK [] b) (l.take m)) (l.drop m)) (fun v_ => true)) cl'16 al'18 (keysF (apK (apK [] b) l) (fun v_ => true)) cl'19 (by omega) ww ((rd_sl (i := 1) rfl) ww ss) ((rd_sl (i := 0) rfl) ww ss)), (fun h_ => (fun ww ss => twice_spec ww)), trivial⟩ ?_
        refine A.tn (A.ret (A.pQ [b_ (((keysF (apK (apK (apK [] b) (l.take m)) (l.drop m)) (fun v_ => true)) == (keysF (apK (apK [] b) l) (fun v_ => true))) && true)] ?_))
        show ((b_ (((keysF (apK (apK (apK [] b) (l.take m)) (l.drop m)) (fun v_ => true)) == (keysF (apK (apK [] b) l) (fun v_ => true))) && true)) : Value) = (b_ true)
        (refine congrArg Value.bool ?_; rw [hj2]; simp)
      exact absurd e7 (by (rw [hj2, tch_same]; simp))
    refine A.region (A.gp [.p, .p, .p] [2, 9, 52] [(59, p_ bc6), (60, vS al l cl), (61, c_ m)] ?_)
    refine A.cons (A.q (some 62) (vS (cutA al cl m 15) (l.drop m) (cl - m)) (by kernel_rfl) (qt_dropS (e := 50) (xs := l) (sz := 15) m rfl rfl rfl (by kernel_rfl) (by kernel_rfl) (by omega) (fun _ _ => hcap)) ?_)
    refine A.gk [.cq (.tuple #[n_, i_ (trI (apK (apK [] b) (l.take m)) 3 (l.drop m)), i_ (trE (apK (apK [] b) (l.take m)) 3 (l.drop m))]), .p, .p, .p, .p, .p, .p, .p] [59, 60, 61, 62] [(12, n_), (14, i_ (trE (apK (apK [] b) (l.take m)) 3 (l.drop m)))] [] (fun κ => κ.call 9 [p_ bc6, i_ 3, vS (cutA al cl m 15) (l.drop m) (cl - m)] (.tuple #[n_, i_ (trI (apK (apK [] b) (l.take m)) 3 (l.drop m)), i_ (trE (apK (apK [] b) (l.take m)) 3 (l.drop m))]) ∧ True) ⟨(fun ww ss => app_err bc6 mc7 (apK (apK [] b) (l.take m)) 3 (cutA al cl m 15) (l.drop m) (cl - m) (by assumption) (by assumption) (by assumption) (by assumption) ww (ss.mem (i := 0) rfl) (ss.mem (i := 1) rfl) ((rd_drop encZc_len (rd_old r1 (by simp [feet])) (by omega) (fun _ _ => hcap)) ww ss)), trivial⟩ ?_
    refine A.tn (A.seq (A.sr (A.g [.p, .p] [14] [(68, b_ ((trE (apK (apK [] b) (l.take m)) 3 (l.drop m)) != 0))] ?_)))
    refine A.tn (A.cn ((trE (apK (apK [] b) (l.take m)) 3 (l.drop m)) != 0) (fun e10 => ?_) (fun e10 => ?_))
    · have p10 := e10; try simp only [nrm] at p10
      refine A.sr (A.gk [.p, .p, .p, .cq (b_ true), .p, .p] [1, 7, 12, 68] [(6, b_ true)] [] (fun κ => κ.call 7 [] (b_ true) ∧ True) ⟨(fun ww ss => twice_spec ww), trivial⟩ ?_)
      refine A.tn (A.ret (A.tr (A.pQ [b_ true] ?_)))
      rfl
    exact absurd e10 (by (intro h_; simp at h_; exact h2 h_))
  refine A.region (A.gp [.p, .p, .p] [] [(43, p_ bt1), (44, vS al l cl), (45, c_ m)] ?_)
  refine A.cons (A.q (some 46) (vS al (l.take m) cl) (by kernel_rfl) (qt_takeS (e := 50) (xs := l) (sz := 15) m rfl rfl rfl (by kernel_rfl) (by kernel_rfl) (by omega) (fun _ _ => hcap)) ?_)
  refine A.gk [.cq (.tuple #[n_, i_ (trI (apK [] b) 3 (l.take m)), i_ (trE (apK [] b) 3 (l.take m))]), .p, .p, .p, .p, .p, .p, .p] [43, 44, 45, 46] [(9, n_), (11, i_ (trE (apK [] b) 3 (l.take m)))] [] (fun κ => κ.call 9 [p_ bt1, i_ 3, vS al (l.take m) cl] (.tuple #[n_, i_ (trI (apK [] b) 3 (l.take m)), i_ (trE (apK [] b) 3 (l.take m))]) ∧ True) ⟨(fun ww ss => app_err bt1 mb2 (apK [] b) 3 al (l.take m) cl (by assumption) (by assumption) (by assumption) (by assumption) ww (ss.mem (i := 0) rfl) (ss.mem (i := 1) rfl) ((rd_take encZc_len (rd_old r1 (by simp [feet])) m) ww ss)), trivial⟩ ?_
  refine A.tn (A.seq (A.sr (A.g [.p, .p] [11] [(52, b_ ((trE (apK [] b) 3 (l.take m)) != 0))] ?_)))
  refine A.tn (A.cn ((trE (apK [] b) 3 (l.take m)) != 0) (fun e11 => ?_) (fun e11 => ?_))
  · have p11 := e11; try simp only [nrm] at p11
    refine A.sr (A.gk [.p, .p, .p, .cq (b_ true), .p, .p] [1, 2, 7, 9, 52] [(6, b_ true)] [] (fun κ => κ.call 7 [] (b_ true) ∧ True) ⟨(fun ww ss => twice_spec ww), trivial⟩ ?_)
    refine A.tn (A.ret (A.tr (A.pQ [b_ true] ?_)))
    rfl
  exact absurd e11 (by (intro h_; simp at h_; exact h1 h_))
end Go.Proofs.YtinnnoimmioaiaaGreat
