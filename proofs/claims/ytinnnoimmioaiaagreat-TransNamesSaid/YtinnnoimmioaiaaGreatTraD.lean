/- What the functions of this layer do, proved operation by operation, for all arguments, under the conditions that each theorem states. -/
import Derived.Test.YtinnnoimmioaiaaGreatProg
import Derived.Test.YtinnnoimmioaiaaGreatTraK
import Derived.Test.YtinnnoimmioaiaaGreatL2
namespace Go.Proofs.YtinnnoimmioaiaaGreat
open Go V
set_option linter.unusedVariables false
set_option linter.unusedSimpArgs false
set_option maxHeartbeats 4000000
set_option maxRecDepth 100000

theorem transNames_walk (a0 : Option Addr) (b : List Zc) (c0 : Nat) (t : Int) (al : Option Addr) (l : List Zc) (cl : Nat) (hb : ∀ z ∈ b, ZcOk z) (hz : ∀ z ∈ l, ZcOk z) (w : World) (r0 : arrAt w a0 (V.flat encZc b)) (r1 : arrAt w al (V.flat encZc l)) :
    Calls Tryz.prog 5 #[vS a0 b c0, i_ t, vS al l cl] w fun e w' => e = .returned (b_ true) ∧ Fr [] w w' := by
  obtain ⟨hKb, hLb⟩ := kr_aps hb; have hll := hLb.len; have hkl := kr_len hKb; have hAb : AOk (apK [] b) := ⟨_, hKb⟩; have hnil : (apR [] b).length ≤ 64 := by omega
  have htl := tch_len (apK [] b) (apK (apK [] b) l)
  refine calls_of (args := [vS a0 b c0, i_ t, vS al l cl]) (penv [vS a0 b c0, i_ t, vS al l cl]) [] [] Tryz.func5 rfl rfl (look_penv _) (HS.nil w) ?_
  refine A.sr (A.g [.p] [] [] ?_)
  refine A.tn (A.seq (A.sr (A.g [.p, .p, .p, .p, .o, .p, .p, .p, .cl] [] [(24, b_ ((decide ((b.length : Int) > 80)) || (decide ((l.length : Int) > 60))))] ?_)))
  refine A.tn (A.cn ((decide ((b.length : Int) > 80)) || (decide ((l.length : Int) > 60))) (fun e1 => ?_) (fun e1 => ?_))
  · have p1 := e1; try simp only [nrm] at p1
    refine A.sr (A.gk [.cq (b_ true), .p] [0, 1, 2, 24] [(6, b_ true)] [] (fun κ => κ.call 7 [] (b_ true) ∧ True) ⟨(fun ww ss => twice_spec ww), trivial⟩ ?_)
    refine A.tn (A.ret (A.tr (A.pQ [b_ true] ?_)))
    rfl
  have p1 := e1; try simp only [nrm] at p1
  refine A.skip (tsr (A.gp [.p] [0, 24] [(27, vS a0 b c0)] ?_))
  refine A.cons (A.cT (some 28) [vS a0 b c0] [] ((fun (zz : Nat × Nat × Option Addr × Nat) => match zz with | (bt1, mb2, ao3, co4) => (.tuple #[p_ bt1, vS ao3 (apR [] b) co4]))) ((fun (zz : Nat × Nat × Option Addr × Nat) => match zz with | (bt1, mb2, ao3, co4) => True)) ((fun (zz : Nat × Nat × Option Addr × Nat) => match zz with | (bt1, mb2, ao3, co4) => [blk bt1 [(.map (some mb2))] 77, mHI mb2 (apK [] b), sCl ao3 (apR [] b) co4])) (fun ww ss hh => tree_spec a0 b c0 (by omega) (by assumption) ww ((rd_old r0 (by simp [feet])) ww ss) hh) ?_)
  rintro ⟨bt1, mb2, ao3, co4⟩ -
  refine A.g [.p, .p, .p, .p, .p] [27, 28] [(7, p_ bt1)] ?_
  refine A.tn (A.seq ?_)
  by_cases hok : trE (apK [] b) t l = 0
  · obtain ⟨hK2, hL2⟩ : KR (apK (apK [] b) l) (apR (apR [] b) l) ∧ Laid (apK (apK [] b) l) := ⟨kr_ap hKb hLb hz, laid_ap hLb⟩; have hl2 := hL2.len; have hkl2 := kr_len hK2
    refine A.region (A.gp [.p, .p, .p] [1] [(32, p_ bt1), (33, i_ t), (34, vS al l cl)] ?_)
    refine A.cons (A.cT (some 35) [p_ bt1, i_ t, vS al l cl] [] ((fun zz => match zz with | (bc6, mc7) => (.tuple #[p_ bc6, i_ 0, i_ 0]))) ((fun zz => match zz with | (bc6, mc7) => True)) ((fun zz => match zz with | (bc6, mc7) => [blk bc6 [(.map (some mc7))] 77, mHI mc7 (apK (apK [] b) l)])) (fun ww ss hh => app_ok bt1 mb2 (apK [] b) t al l cl (by assumption) (by assumption) (by assumption) (by assumption) ww (ss.mem (i := 0) rfl) (ss.mem (i := 1) rfl) ((rd_old r1 (by simp [feet])) ww ss) hh) ?_)
    rintro ⟨bc6, mc7⟩ -
    refine A.g [.p, .p, .p, .p, .p, .p, .p] [32, 33, 34, 35] [(9, p_ bc6), (11, i_ 0)] ?_
    refine A.tn (A.seq (A.sr (A.g [.p, .p] [11] [(40, b_ false)] ?_)))
    refine A.tn (A.cf (A.skip (A.tn (A.seq (A.sr (A.gp [.p, .p] [7, 9, 40] [(42, p_ bt1), (43, p_ bc6)] ?_))))))
    refine A.cons (A.cT (some 44) [p_ bt1, p_ bc6] [] ((fun zz => match zz with | (al'8, cl'9) => (vS al'8 (tchL (apK [] b) (apK (apK [] b) l)) cl'9))) ((fun zz => match zz with | (al'8, cl'9) => True)) ((fun zz => match zz with | (al'8, cl'9) => [sI al'8 (tchL (apK [] b) (apK (apK [] b) l)) cl'9])) (fun ww ss hh => tch_ok bt1 mb2 (apK [] b) bc6 mc7 (apK (apK [] b) l) (by assumption) (by assumption) ww (ss.mem (i := 2) rfl) (ss.mem (i := 3) rfl) (ss.mem (i := 0) rfl) (ss.mem (i := 1) rfl) hh) ?_)
    rintro ⟨al'8, cl'9⟩ -
    refine A.g [.p, .p] [42, 43] [(44, vS al'8 (tchL (apK [] b) (apK (apK [] b) l)) cl'9), (45, i_ ((tchL (apK [] b) (apK (apK [] b) l)).length : Int)), (46, i_ 0)] ?_
    refine A.tn (A.block (A.loop (fun (zz : Nat) => match zz with | k => [(2, vS al l cl), (44, vS al'8 (tchL (apK [] b) (apK (apK [] b) l)) cl'9), (45, i_ ((tchL (apK [] b) (apK (apK [] b) l)).length : Int)), (46, c_ k)]) (fun (zz : Nat) => match zz with | k => [sI al'8 (tchL (apK [] b) (apK (apK [] b) l)) cl'9, blk bc6 [(.map (some mc7))] 77, mHI mc7 (apK (apK [] b) l), blk bt1 [(.map (some mb2))] 77, mHI mb2 (apK [] b), sCl ao3 (apR [] b) co4]) (fun (zz : Nat) => match zz with | k => (k ≤ (tchL (apK [] b) (apK (apK [] b) l)).length)) (fun (zz : Nat) => match zz with | k => (tchL (apK [] b) (apK (apK [] b) l)).length - k) (0 : Nat) (by omega) ?_ ?_))
    · exact A.hK [0, 0, 0, 0, 0, 0]
    rintro k hk
    have hk : k ≤ (tchL (apK [] b) (apK (apK [] b) l)).length := hk
    refine A.sr (A.g [.p] [] [(47, b_ (decide ((k : Int) < ((tchL (apK [] b) (apK (apK [] b) l)).length : Int))))] ?_)
    refine A.tn (A.seq (A.cn (decide ((k : Int) < ((tchL (apK [] b) (apK (apK [] b) l)).length : Int))) (fun e5 => ?_) (fun e5 => ?_)))
    · have p5 := of_decide_eq_true e5
      refine A.skip (A.tn (A.seq (A.block (A.sr (A.gpk [.ix] [47] [(48, (.pointer (some ((at0 al'8).add (k * 1)))))] [] (fun κ => κ.ix al'8 ((tchL (apK [] b) (apK (apK [] b) l)).length) (k : Int) ∧ True) ⟨(ixOf encI_len (by decide) (rd_sl (i := 0) rfl) (by omega)), trivial⟩ ?_)))))
      obtain ⟨x11, hx11⟩ : ∃ x, ((tchL (apK [] b) (apK (apK [] b) l)))[k]? = some x := ⟨_, List.getElem?_eq_getElem (by omega)⟩
      refine A.gk [.rd [i_ x11], .p] [48] [(13, i_ x11)] [] (fun κ => κ.rd ((at0 al'8).add (k * 1)) [i_ x11] ∧ True) ⟨(reads_at0 (vs := [i_ x11]) encI_len (rd_sl (i := 0) rfl) hx11 (Nat.le_of_ble_eq_true rfl) rfl), trivial⟩ ?_
      refine tsr (A.g [.p] [] [(14, b_ false)] ?_)
      refine A.tn (A.seq (A.sr (A.g [.p, .p, .p] [] [(50, vS al l cl), (51, c_ l.length), (52, i_ 0)] ?_)))
      refine A.tn (A.block (A.sv 14 (b_ (nmB (l.take 0) x11)) (cgB (by rfl)) ?_))
      refine A.loop (fun (zz : Nat) => match zz with | j => [(2, vS al l cl), (44, vS al'8 (tchL (apK [] b) (apK (apK [] b) l)) cl'9), (45, i_ ((tchL (apK [] b) (apK (apK [] b) l)).length : Int)), (46, c_ k), (13, i_ x11), (50, vS al l cl), (51, c_ l.length), (52, c_ j), (14, b_ (nmB (l.take j) x11))]) (fun (zz : Nat) => match zz with | j => [sI al'8 (tchL (apK [] b) (apK (apK [] b) l)) cl'9, blk bc6 [(.map (some mc7))] 77, mHI mc7 (apK (apK [] b) l), blk bt1 [(.map (some mb2))] 77, mHI mb2 (apK [] b), sCl ao3 (apR [] b) co4]) (fun (zz : Nat) => match zz with | j => (j ≤ l.length)) (fun (zz : Nat) => match zz with | j => l.length - j) (0 : Nat) (by omega) ?_ ?_
      · exact A.hK [0, 0, 0, 0, 0, 0]
      rintro j hj
      have hj : j ≤ l.length := hj
      refine A.sr (A.g [.p] [] [(53, b_ (decide ((j : Int) < (l.length : Int))))] ?_)
      refine A.tn (A.seq (A.cn (decide ((j : Int) < (l.length : Int))) (fun e6 => ?_) (fun e6 => ?_)))
      · have p6 := of_decide_eq_true e6
        refine A.skip (A.tn (A.seq (A.block (A.sr (A.gpk [.ix] [53] [(54, (.pointer (some ((at0 al).add (j * 15)))))] [] (fun κ => κ.ix al l.length (j : Int) ∧ True) ⟨(ixOf encZc_len (by decide) (rd_old r1 (by simp [feet])) (by omega)), trivial⟩ ?_)))))
        obtain ⟨x12, hx12⟩ : ∃ x, (l)[j]? = some x := ⟨_, List.getElem?_eq_getElem (by omega)⟩
        refine A.goA1 [.rd (encZc x12), .al, .st 6] [2, 44, 45, 46, 13, 50, 51, 52, 14, 16] (fun b13 => [(2, vS al l cl), (44, vS al'8 (tchL (apK [] b) (apK (apK [] b) l)) cl'9), (45, i_ ((tchL (apK [] b) (apK (apK [] b) l)).length : Int)), (46, c_ k), (13, i_ x11), (50, vS al l cl), (51, c_ l.length), (52, c_ j), (14, b_ (nmB (l.take j) x11)), (16, p_ b13)]) (fun b13 => [sI al'8 (tchL (apK [] b) (apK (apK [] b) l)) cl'9, blk bc6 [(.map (some mc7))] 77, mHI mc7 (apK (apK [] b) l), blk bt1 [(.map (some mb2))] 77, mHI mb2 (apK [] b), sCl ao3 (apR [] b) co4, blk b13 (encZc x12) 50]) (fun b13 => [b13]) (fun _ => (fun κ => κ.rd ((at0 al).add (j * 15)) (encZc x12) ∧ True)) (fun _ => by kernel_rfl) (fun b13 => ⟨(reads_at0 (vs := (encZc x12)) encZc_len (rd_old r1 (by simp [feet])) hx12 (Nat.le_of_ble_eq_true rfl) rfl), trivial⟩) ?_
        intro b13
        refine tr (A.gk [.p, .p, .o, .p, .p, .ld 6, .p, .p, .cl, .p] [16] [(14, b_ ((nmB (l.take j) x11) || (x12.zi == x11)))] [b13] T0 trivial ?_)
        refine A.bn (tr (A.gk [.w ((j : Int) + 1), .p] [] [(52, i_ ((j : Int) + 1))] [] (fun κ => (IntKind.i64.wrap ((j : Int) + 1) = ((j : Int) + 1)) ∧ True) ⟨(wrap_i64 (e := (j : Int) + 1) (by constructor <;> omega)), trivial⟩ ?_))
        refine A.tn (A.sv 14 (b_ (nmB (l.take (j + 1)) x11)) (cgB (by grind [nm_snoc])) ?_)
        refine A.next (j + 1) (by omega) (by (simp; omega)) ?_
        exact A.hK [0, 0, 0, 0, 0, 0]
      have p6 := of_decide_eq_false e6
      refine A.exit (A.te (A.te (A.bh (tsr (A.g [.p, .p] [13, 50, 51, 52, 14, 53] [(66, b_ (!(nmB (l.take j) x11)))] ?_)))))
      refine A.tn (A.cn (!(nmB (l.take j) x11)) (fun e7 => ?_) (fun e7 => ?_))
      · exact absurd e7 (by (rw [List.take_of_length_le (by omega), nm_ok hLb (List.mem_of_getElem? (by assumption : (tchL (apK [] b) (apK (apK [] b) l))[k]? = some x11))]; simp))
      have p7 := e7; try simp only [nrm] at p7
      refine A.skip (A.bn (tr (A.gk [.w ((k : Int) + 1), .p] [66] [(46, i_ ((k : Int) + 1))] [] (fun κ => (IntKind.i64.wrap ((k : Int) + 1) = ((k : Int) + 1)) ∧ True) ⟨(wrap_i64 (e := (k : Int) + 1) (by constructor <;> omega)), trivial⟩ ?_)))
      refine A.tn (A.next (k + 1) (by omega) (by (simp; omega)) ?_)
      exact A.hK [0, 0, 0, 0, 0, 0]
    have p5 := of_decide_eq_false e5
    refine A.exit (A.te (A.te (A.bh (tsr (A.gk [.cq (b_ true), .p] [2, 44, 45, 46, 47] [(6, b_ true)] [] (fun κ => κ.call 7 [] (b_ true) ∧ True) ⟨(fun ww ss => twice_spec ww), trivial⟩ ?_)))))
    refine A.tn (A.ret (A.pQ [b_ true] ?_))
    rfl
  refine A.region (A.gk [.p, .p, .p, .cq (.tuple #[n_, i_ (trI (apK [] b) t l), i_ (trE (apK [] b) t l)]), .p, .p, .p, .p, .p, .p, .p] [1] [(9, n_), (11, i_ (trE (apK [] b) t l))] [] (fun κ => κ.call 9 [p_ bt1, i_ t, vS al l cl] (.tuple #[n_, i_ (trI (apK [] b) t l), i_ (trE (apK [] b) t l)]) ∧ True) ⟨(fun ww ss => app_err bt1 mb2 (apK [] b) t al l cl (by assumption) (by assumption) (by assumption) (by assumption) ww (ss.mem (i := 0) rfl) (ss.mem (i := 1) rfl) ((rd_old r1 (by simp [feet])) ww ss)), trivial⟩ ?_)
  refine A.tn (A.seq (A.sr (A.g [.p, .p] [11] [(40, b_ ((trE (apK [] b) t l) != 0))] ?_)))
  refine A.tn (A.cn ((trE (apK [] b) t l) != 0) (fun e8 => ?_) (fun e8 => ?_))
  · have p8 := e8; try simp only [nrm] at p8
    refine A.sr (A.gk [.cq (b_ true), .p] [2, 7, 9, 40] [(6, b_ true)] [] (fun κ => κ.call 7 [] (b_ true) ∧ True) ⟨(fun ww ss => twice_spec ww), trivial⟩ ?_)
    refine A.tn (A.ret (A.tr (A.pQ [b_ true] ?_)))
    rfl
  exact absurd e8 (by (intro h_; simp at h_; exact hok h_))
end Go.Proofs.YtinnnoimmioaiaaGreat
