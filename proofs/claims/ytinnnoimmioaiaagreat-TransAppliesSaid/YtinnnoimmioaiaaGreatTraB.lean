/- What the functions of this layer do, proved operation by operation, for all arguments, under the conditions that each theorem states. -/
import Derived.Test.YtinnnoimmioaiaaGreatProg
import Derived.Test.YtinnnoimmioaiaaGreatTraK
import Derived.Test.YtinnnoimmioaiaaGreatL2
namespace Go.Proofs.YtinnnoimmioaiaaGreat
open Go V
set_option linter.unusedVariables false
set_option linter.unusedSimpArgs false
set_option maxHeartbeats 4000000
set_option maxRecDepth 100000

theorem transApplies_walk (a0 : Option Addr) (b : List Zc) (c0 : Nat) (t : Int) (al : Option Addr) (l : List Zc) (cl : Nat) (hb : ∀ z ∈ b, ZcOk z) (hz : ∀ z ∈ l, ZcOk z) (w : World) (r0 : arrAt w a0 (V.flat encZc b)) (r1 : arrAt w al (V.flat encZc l)) :
    Calls Tryz.prog 3 #[vS a0 b c0, i_ t, vS al l cl] w fun e w' => e = .returned (b_ true) ∧ Fr [] w w' := by
  obtain ⟨hKb, hLb⟩ := kr_aps hb; have hll := hLb.len; have hkl := kr_len hKb; have hAb : AOk (apK [] b) := ⟨_, hKb⟩; have hnil : (apR [] b).length ≤ 64 := by omega
  refine calls_of (args := [vS a0 b c0, i_ t, vS al l cl]) (penv [vS a0 b c0, i_ t, vS al l cl]) [] [] Tryz.func3 rfl rfl (look_penv _) (HS.nil w) ?_
  refine A.sr (A.g [.p] [] [] ?_)
  refine A.tn (A.seq (A.sr (A.g [.p, .p, .p, .p, .o, .p, .p, .p, .cl] [] [(20, b_ ((decide ((b.length : Int) > 80)) || (decide ((l.length : Int) > 60))))] ?_)))
  refine A.tn (A.cn ((decide ((b.length : Int) > 80)) || (decide ((l.length : Int) > 60))) (fun e1 => ?_) (fun e1 => ?_))
  · have p1 := e1; try simp only [nrm] at p1
    refine A.sr (A.gk [.cq (b_ true), .p] [0, 1, 2, 20] [(6, b_ true)] [] (fun κ => κ.call 7 [] (b_ true) ∧ True) ⟨(fun ww ss => twice_spec ww), trivial⟩ ?_)
    refine A.tn (A.ret (A.tr (A.pQ [b_ true] ?_)))
    rfl
  have p1 := e1; try simp only [nrm] at p1
  refine A.skip (tsr (A.gp [.p] [0, 20] [(23, vS a0 b c0)] ?_))
  refine A.cons (A.cT (some 24) [vS a0 b c0] [] ((fun (zz : Nat × Nat × Option Addr × Nat) => match zz with | (bt1, mb2, ao3, co4) => (.tuple #[p_ bt1, vS ao3 (apR [] b) co4]))) ((fun (zz : Nat × Nat × Option Addr × Nat) => match zz with | (bt1, mb2, ao3, co4) => True)) ((fun (zz : Nat × Nat × Option Addr × Nat) => match zz with | (bt1, mb2, ao3, co4) => [blk bt1 [(.map (some mb2))] 77, mHI mb2 (apK [] b), sCl ao3 (apR [] b) co4])) (fun ww ss hh => tree_spec a0 b c0 (by omega) (by assumption) ww ((rd_old r0 (by simp [feet])) ww ss) hh) ?_)
  rintro ⟨bt1, mb2, ao3, co4⟩ -
  refine A.g [.p, .p, .p, .p, .p] [23, 24] [(7, p_ bt1), (8, vS ao3 (apR [] b) co4)] ?_
  refine A.tn (A.seq ?_)
  by_cases hok : trE (apK [] b) t l = 0
  · obtain ⟨hK2, hL2⟩ : KR (apK (apK [] b) l) (apR (apR [] b) l) ∧ Laid (apK (apK [] b) l) := ⟨kr_ap hKb hLb hz, laid_ap hLb⟩; have hl2 := hL2.len; have hkl2 := kr_len hK2
    refine A.region (A.gp [.p, .p, .p] [] [(28, p_ bt1), (29, i_ t), (30, vS al l cl)] ?_)
    refine A.cons (A.cT (some 31) [p_ bt1, i_ t, vS al l cl] [] ((fun zz => match zz with | (bc6, mc7) => (.tuple #[p_ bc6, i_ 0, i_ 0]))) ((fun zz => match zz with | (bc6, mc7) => True)) ((fun zz => match zz with | (bc6, mc7) => [blk bc6 [(.map (some mc7))] 77, mHI mc7 (apK (apK [] b) l)])) (fun ww ss hh => app_ok bt1 mb2 (apK [] b) t al l cl (by assumption) (by assumption) (by assumption) (by assumption) ww (ss.mem (i := 0) rfl) (ss.mem (i := 1) rfl) ((rd_old r1 (by simp [feet])) ww ss) hh) ?_)
    rintro ⟨bc6, mc7⟩ -
    refine A.g [.p, .p, .p, .p, .p, .p, .p] [28, 29, 30, 31] [(9, p_ bc6), (10, i_ 0), (11, i_ 0)] ?_
    refine A.tn (A.seq ?_)
    by_cases hnl : l = []
    · have hK3 : KR (apK (apK [] b) l) (apR [] b) := by rw [hnl]; exact hKb
      refine A.region (A.gp [.p, .p, .p] [1, 2] [(35, vS ao3 (apR [] b) co4), (36, i_ t), (37, vS al l cl)] ?_)
      refine A.cons (A.cT (some 38) [vS ao3 (apR [] b) co4, i_ t, vS al l cl] [] ((fun _ => (.agg #[vS ao3 (apR [] b) co4, i_ 0, i_ 0]))) ((fun _ => True)) ((fun _ => [])) (fun ww ss hh => rap_nil (apK [] b) ao3 (apR [] b) co4 t al l cl (by assumption) (by assumption) (by assumption) (by assumption) (by assumption) (by assumption) ww ((rd_sl (i := 4) rfl) ww ss) ((rd_old r1 (by simp [feet])) ww ss) hh) ?_)
      rintro ⟨⟩ -
      refine A.g1 [.al, .st 5] [35, 36, 37, 38] (fun b8 => [(12, p_ b8)]) (fun b8 => []) (fun b8 => blk b8 [vS ao3 (apR [] b) co4, i_ 0, i_ 0] 32) (fun b8 => [b8]) ?_
      intro b8
      refine A.tn (A.seq (A.sr (A.gpk [.p, .p, .ld 5, .p, .p, .p, .p, .ld 5, .p, .p, .p, .p, .p] [7, 8, 10] [(49, b_ false), (50, p_ bt1), (51, vS ao3 (apR [] b) co4)] [b8, b8] T0 trivial ?_)))
      refine A.cons (A.cT (some 52) [p_ bt1, vS ao3 (apR [] b) co4] [] ((fun _ => (b_ true))) ((fun _ => True)) ((fun _ => [])) (fun ww ss hh => same19_spec bt1 mb2 (apK [] b) ao3 (apR [] b) co4 (by assumption) (by assumption) ww (ss.mem (i := 2) rfl) (ss.mem (i := 3) rfl) ((rd_sl (i := 4) rfl) ww ss) hh) ?_)
      rintro ⟨⟩ -
      refine A.g [.p, .p] [49, 50, 51, 52] [(54, b_ false)] ?_
      refine A.tn (A.cf (A.skip (A.tn (A.seq (A.sr (A.g [.p, .p] [11, 54] [(56, b_ false)] ?_))))))
      refine A.tn (A.cf (A.skip (tsr (A.gpk [.p, .p, .p, .p, .p, .ld 5] [9, 12, 56] [(64, b_ true), (65, p_ bc6), (67, vS ao3 (apR [] b) co4)] [b8] T0 trivial ?_))))
      refine A.cons (A.cT (some 68) [p_ bc6, vS ao3 (apR [] b) co4] [] ((fun _ => (b_ true))) ((fun _ => True)) ((fun _ => [])) (fun ww ss hh => same19_spec bc6 mc7 (apK (apK [] b) l) ao3 (apR [] b) co4 (by assumption) (by assumption) ww (ss.mem (i := 0) rfl) (ss.mem (i := 1) rfl) ((rd_sl (i := 4) rfl) ww ss) hh) ?_)
      rintro ⟨⟩ -
      refine A.gk [.p, .p, .cq (b_ true), .p, .p] [64, 65, 67, 68] [(6, b_ true)] [] (fun κ => κ.call 7 [] (b_ true) ∧ True) ⟨(fun ww ss => twice_spec ww), trivial⟩ ?_
      refine A.tn (A.ret (A.pQ [b_ true] ?_))
      rfl
    refine A.region (A.gp [.p, .p, .p] [1, 2] [(35, vS ao3 (apR [] b) co4), (36, i_ t), (37, vS al l cl)] ?_)
    refine A.cons (A.cT (some 38) [vS ao3 (apR [] b) co4, i_ t, vS al l cl] [] ((fun (zz : Option Addr × Nat) => match zz with | (al'9, cl'10) => (.agg #[vS al'9 (apR (apR [] b) l) cl'10, i_ 0, i_ 0]))) ((fun (zz : Option Addr × Nat) => match zz with | (al'9, cl'10) => True)) ((fun (zz : Option Addr × Nat) => match zz with | (al'9, cl'10) => [sCl al'9 (apR (apR [] b) l) cl'10])) (fun ww ss hh => rap_ok (apK [] b) ao3 (apR [] b) co4 t al l cl (by assumption) (by assumption) (by assumption) (by assumption) (by assumption) (by assumption) ww ((rd_sl (i := 4) rfl) ww ss) ((rd_old r1 (by simp [feet])) ww ss) hh) ?_)
    rintro ⟨al'9, cl'10⟩ -
    refine A.g1 [.al, .st 6] [35, 36, 37, 38] (fun b12 => [(12, p_ b12)]) (fun b12 => []) (fun b12 => blk b12 [vS al'9 (apR (apR [] b) l) cl'10, i_ 0, i_ 0] 32) (fun b12 => [b12]) ?_
    intro b12
    refine A.tn (A.seq (A.sr (A.gpk [.p, .p, .ld 6, .p, .p, .p, .p, .ld 6, .p, .p, .p, .p, .p] [7, 8, 10] [(49, b_ false), (50, p_ bt1), (51, vS ao3 (apR [] b) co4)] [b12, b12] T0 trivial ?_)))
    refine A.cons (A.cT (some 52) [p_ bt1, vS ao3 (apR [] b) co4] [] ((fun _ => (b_ true))) ((fun _ => True)) ((fun _ => [])) (fun ww ss hh => same19_spec bt1 mb2 (apK [] b) ao3 (apR [] b) co4 (by assumption) (by assumption) ww (ss.mem (i := 3) rfl) (ss.mem (i := 4) rfl) ((rd_sl (i := 5) rfl) ww ss) hh) ?_)
    rintro ⟨⟩ -
    refine A.g [.p, .p] [49, 50, 51, 52] [(54, b_ false)] ?_
    refine A.tn (A.cf (A.skip (A.tn (A.seq (A.sr (A.g [.p, .p] [11, 54] [(56, b_ false)] ?_))))))
    refine A.tn (A.cf (A.skip (tsr (A.gpk [.p, .p, .p, .p, .p, .ld 6] [9, 12, 56] [(64, b_ true), (65, p_ bc6), (67, vS al'9 (apR (apR [] b) l) cl'10)] [b12] T0 trivial ?_))))
    refine A.cons (A.cT (some 68) [p_ bc6, vS al'9 (apR (apR [] b) l) cl'10] [] ((fun _ => (b_ true))) ((fun _ => True)) ((fun _ => [])) (fun ww ss hh => same19_spec bc6 mc7 (apK (apK [] b) l) al'9 (apR (apR [] b) l) cl'10 (by assumption) (by assumption) ww (ss.mem (i := 1) rfl) (ss.mem (i := 2) rfl) ((rd_sl (i := 0) rfl) ww ss) hh) ?_)
    rintro ⟨⟩ -
    refine A.gk [.p, .p, .cq (b_ true), .p, .p] [64, 65, 67, 68] [(6, b_ true)] [] (fun κ => κ.call 7 [] (b_ true) ∧ True) ⟨(fun ww ss => twice_spec ww), trivial⟩ ?_
    refine A.tn (A.ret (A.pQ [b_ true] ?_))
    rfl
  refine A.region (A.gk [.p, .p, .p, .cq (.tuple #[n_, i_ (trI (apK [] b) t l), i_ (trE (apK [] b) t l)]), .p, .p, .p, .p, .p, .p, .p] [] [(9, n_), (10, i_ (trI (apK [] b) t l)), (11, i_ (trE (apK [] b) t l))] [] (fun κ => κ.call 9 [p_ bt1, i_ t, vS al l cl] (.tuple #[n_, i_ (trI (apK [] b) t l), i_ (trE (apK [] b) t l)]) ∧ True) ⟨(fun ww ss => app_err bt1 mb2 (apK [] b) t al l cl (by assumption) (by assumption) (by assumption) (by assumption) ww (ss.mem (i := 0) rfl) (ss.mem (i := 1) rfl) ((rd_old r1 (by simp [feet])) ww ss)), trivial⟩ ?_)
  refine tsr (A.gp [.p, .p, .p] [1, 2] [(35, vS ao3 (apR [] b) co4), (36, i_ t), (37, vS al l cl)] ?_)
  refine A.cons (A.cT (some 38) [vS ao3 (apR [] b) co4, i_ t, vS al l cl] [] ((fun (zz : Option Addr × List Cl × Nat) => match zz with | (al'13, xs'14, cl'15) => (.agg #[vS al'13 xs'14 cl'15, i_ (trI (apK [] b) t l), i_ (trE (apK [] b) t l)]))) ((fun (zz : Option Addr × List Cl × Nat) => match zz with | (al'13, xs'14, cl'15) => True)) ((fun (zz : Option Addr × List Cl × Nat) => match zz with | (al'13, xs'14, cl'15) => [])) (fun ww ss hh => rap_err (apK [] b) ao3 (apR [] b) co4 t al l cl (by assumption) (by assumption) (by assumption) (by assumption) (by assumption) ww ((rd_sl (i := 2) rfl) ww ss) ((rd_old r1 (by simp [feet])) ww ss) hh) ?_)
  rintro ⟨al'13, xs'14, cl'15⟩ -
  refine A.g1 [.al, .st 3] [35, 36, 37, 38] (fun b16 => [(12, p_ b16)]) (fun b16 => []) (fun b16 => blk b16 [vS al'13 xs'14 cl'15, i_ (trI (apK [] b) t l), i_ (trE (apK [] b) t l)] 32) (fun b16 => [b16]) ?_
  intro b16
  refine A.tn (A.seq (A.sr (A.gpk [.p, .p, .ld 3, .p, .p, .o, .p, .p, .ld 3, .p, .cl, .p] [10] [(49, b_ (((trE (apK [] b) t l) != (trE (apK [] b) t l)) || ((trI (apK [] b) t l) != (trI (apK [] b) t l))))] [b16, b16] T0 trivial ?_)))
  refine A.bool (((trE (apK [] b) t l) != (trE (apK [] b) t l)) || ((trI (apK [] b) t l) != (trI (apK [] b) t l))) (fun e11 => ?_) (fun e11 => ?_)
  · refine A.sv 49 (b_ true) (cgB e11) ?_
    refine A.g [.sk, .sk, .sk, .sk, .p] [7, 8, 49] [(54, b_ true)] ?_
    refine A.tn (A.ct (A.sr (A.g [.p] [9, 11, 12, 54] [(6, b_ false)] ?_)))
    refine A.tn (A.ret (A.tr (A.pQ [b_ false] ?_)))
    show ((b_ false) : Value) = (b_ true)
    simp_all
  refine A.sv 49 (b_ false) (cgB e11) ?_
  refine A.gp [.p, .p] [7, 8] [(50, p_ bt1), (51, vS ao3 (apR [] b) co4)] ?_
  refine A.cons (A.cT (some 52) [p_ bt1, vS ao3 (apR [] b) co4] [] ((fun _ => (b_ true))) ((fun _ => True)) ((fun _ => [])) (fun ww ss hh => same19_spec bt1 mb2 (apK [] b) ao3 (apR [] b) co4 (by assumption) (by assumption) ww (ss.mem (i := 0) rfl) (ss.mem (i := 1) rfl) ((rd_sl (i := 2) rfl) ww ss) hh) ?_)
  rintro ⟨⟩ -
  refine A.g [.p, .p] [49, 50, 51, 52] [(54, b_ false)] ?_
  refine A.tn (A.cf (A.skip (A.tn (A.seq (A.sr (A.g [.p, .p] [11, 54] [(56, b_ ((trE (apK [] b) t l) != 0))] ?_))))))
  refine A.tn (A.cn ((trE (apK [] b) t l) != 0) (fun e13 => ?_) (fun e13 => ?_))
  · have p13 := e13; try simp only [nrm] at p13
    refine A.sr (A.gk [.p, .p, .p, .cq (b_ true), .p, .p] [9, 12, 56] [(6, b_ true)] [] (fun κ => κ.call 7 [] (b_ true) ∧ True) ⟨(fun ww ss => twice_spec ww), trivial⟩ ?_)
    refine A.tn (A.ret (A.tr (A.pQ [b_ true] ?_)))
    rfl
  exact absurd e13 (by (intro h_; simp at h_; exact hok h_))
end Go.Proofs.YtinnnoimmioaiaaGreat
