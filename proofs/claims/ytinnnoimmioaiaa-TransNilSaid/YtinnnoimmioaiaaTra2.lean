/- What the functions of this layer do, proved operation by operation, for all arguments, under the conditions that each theorem states. -/
import Derived.Test.YtinnnoimmioaiaaProg
import Derived.Test.YtinnnoimmioaiaaTraG
import Derived.Test.YtinnnoimmioaiaaL2
namespace Go.Proofs.Ytinnnoimmioaiaa
open Go V
set_option linter.unusedVariables false
set_option linter.unusedSimpArgs false
set_option maxHeartbeats 4000000
set_option maxRecDepth 100000

theorem concat_spec (bs : Nat) (ax : Option Addr) (xs : List Int) (cx : Nat) (ay : Option Addr) (ys : List Int) (cy : Nat) (hx : xs.length ≤ 200) (hy : ys.length ≤ 200) (w : World) (r0 : (blk bs [vS ax xs cx, vS ay ys cy] 45).holds w) (r1 : arrAt w ax (V.flat encI xs)) (r2 : arrAt w ay (V.flat encI ys)) (hs : HS w (feet []) [] w) :
    Calls Try.prog 78 #[(.slice (some ⟨bs, 0, none⟩) 2 2)] w fun e w' => ∃ zz, e = .returned ((fun (zz : (Option Addr) × Nat) => match zz with | (al', cl') => (vS al' (xs ++ ys) cl')) zz) ∧ (fun (zz : (Option Addr) × Nat) => match zz with | (al', cl') => True) zz ∧ Turn [] ((fun (zz : (Option Addr) × Nat) => match zz with | (al', cl') => [sI al' (xs ++ ys) cl']) zz) w w' := by
  refine calls_of (args := [(.slice (some ⟨bs, 0, none⟩) 2 2)]) (penv [(.slice (some ⟨bs, 0, none⟩) 2 2)]) (feet []) [] Try.func78 rfl rfl (look_penv _) hs ?_
  refine A.sr (A.g [.p] [] [] ?_)
  refine tsr (A.g [.p] [] [(3, i_ 0)] ?_)
  refine A.tn (A.seq (A.sr (A.g [.p, .p, .p] [] [(9, (.slice (some ⟨bs, 0, none⟩) 2 2)), (10, i_ 2), (11, i_ 0)] ?_)))
  refine A.tn (A.block (A.unroll 400 ?_))
  refine A.turnk (m := 399) ?_
  refine A.sr (A.g [.p] [] [(12, b_ true)] ?_)
  refine A.tn (A.seq (A.ct (A.skip (A.tn (A.seq (A.block (A.sr (A.cons (A.q (some 13) (p_ bs) (by kernel_rfl) (qt_indexAddr (off := 0) (sz := 1) (el := 45) (e := 0) (len := 2) rfl rfl rfl (by kernel_rfl) (by kernel_rfl) (by omega)) ?_)))))))))
  refine A.gk [.rd [vS ax xs cx], .p] [12, 13] [(5, vS ax xs cx)] [] (fun κ => κ.rd ⟨bs, 0, none⟩ [vS ax xs cx] ∧ True) ⟨(reads_oldblk r0 rfl), trivial⟩ ?_
  refine tsr (A.gk [.p, .p, .p, .w (0 + (xs.length : Int)), .p] [5] [(3, i_ (0 + (xs.length : Int)))] [] (fun κ => (IntKind.i64.wrap (0 + (xs.length : Int)) = (0 + (xs.length : Int))) ∧ True) ⟨(wrap_i64 (e := 0 + (xs.length : Int)) (by constructor <;> omega)), trivial⟩ ?_)
  refine tsr (A.g [.p, .p] [] [(20, b_ (decide ((0 + (xs.length : Int)) < 0)))] ?_)
  refine A.tn (A.cn (decide ((0 + (xs.length : Int)) < 0)) (fun e1 => ?_) (fun e1 => ?_))
  · exact absurd e1 (by (intro h_; have h2_ := of_decide_eq_true h_; omega))
  have p1 := of_decide_eq_false e1
  refine A.skip (A.bn (tr (A.g [.p, .p] [20] [(11, i_ 1)] ?_)))
  refine A.tn (A.turnk (m := 398) ?_)
  refine A.sr (A.g [.p] [] [(12, b_ true)] ?_)
  refine A.tn (A.seq (A.ct (A.skip (A.tn (A.seq (A.block (A.sr (A.cons (A.q (some 13) (q_ bs 1) (by kernel_rfl) (qt_indexAddr (off := 0) (sz := 1) (el := 45) (e := 1) (len := 2) rfl rfl rfl (by kernel_rfl) (by kernel_rfl) (by omega)) ?_)))))))))
  refine A.gk [.rd [vS ay ys cy], .p] [12, 13] [(5, vS ay ys cy)] [] (fun κ => κ.rd ⟨bs, 1, none⟩ [vS ay ys cy] ∧ True) ⟨(reads_oldblk r0 rfl), trivial⟩ ?_
  refine tsr (A.gk [.p, .p, .p, .w ((0 + (xs.length : Int)) + (ys.length : Int)), .p] [5] [(3, i_ ((0 + (xs.length : Int)) + (ys.length : Int)))] [] (fun κ => (IntKind.i64.wrap ((0 + (xs.length : Int)) + (ys.length : Int)) = ((0 + (xs.length : Int)) + (ys.length : Int))) ∧ True) ⟨(wrap_i64 (e := (0 + (xs.length : Int)) + (ys.length : Int)) (by constructor <;> omega)), trivial⟩ ?_)
  refine tsr (A.g [.p, .p] [] [(20, b_ (decide (((0 + (xs.length : Int)) + (ys.length : Int)) < 0)))] ?_)
  refine A.tn (A.cn (decide (((0 + (xs.length : Int)) + (ys.length : Int)) < 0)) (fun e2 => ?_) (fun e2 => ?_))
  · exact absurd e2 (by (intro h_; have h2_ := of_decide_eq_true h_; omega))
  have p2 := of_decide_eq_false e2
  refine A.skip (A.bn (tr (A.g [.p, .p] [20] [(11, i_ 2)] ?_)))
  refine A.tn (A.turnk (m := 397) ?_)
  refine A.sr (A.g [.p] [] [(12, b_ false)] ?_)
  refine A.tn (A.seq (A.cf (A.exit (A.te (A.te (A.bh (A.tn (A.seq (A.sv 3 (c_ (xs.length + ys.length : Nat)) (cgI (by (show (0 + (xs.length : Int)) + (ys.length : Int) = ((xs.length + ys.length : Nat) : Int); omega))) ?_)))))))))
  refine A.region (A.goP [.p] [(0, (.slice (some ⟨bs, 0, none⟩) 2 2)), (23, c_ (xs.length + ys.length : Nat))] [] T0 (by kernel_rfl) trivial ?_)
  refine A.cons (A.cT (some 24) [e_, c_ (xs.length + ys.length : Nat)] [] ((fun zz => match zz with | (al'1, cl'2) => (vS al'1 ([] : List Int) cl'2))) ((fun zz => match zz with | (al'1, cl'2) => True)) ((fun zz => match zz with | (al'1, cl'2) => [sI al'1 ([] : List Int) cl'2])) (fun ww ss hh => grow_spec (xs.length + ys.length : Nat) (by omega) ww hh) ?_)
  rintro ⟨al'1, cl'2⟩ -
  refine A.g [.p] [23, 24] [(6, vS al'1 ([] : List Int) cl'2)] ?_
  refine A.tn (A.seq (A.sr (A.g [.p, .p, .p] [0] [(25, (.slice (some ⟨bs, 0, none⟩) 2 2)), (26, i_ 2), (27, i_ 0)] ?_)))
  refine A.tn (A.block (A.unroll 400 ?_))
  refine A.turnk (m := 399) ?_
  refine A.sr (A.g [.p] [] [(28, b_ true)] ?_)
  refine A.tn (A.seq (A.ct (A.skip (A.tn (A.seq (A.block (A.sr (A.cons (A.q (some 29) (p_ bs) (by kernel_rfl) (qt_indexAddr (off := 0) (sz := 1) (el := 45) (e := 0) (len := 2) rfl rfl rfl (by kernel_rfl) (by kernel_rfl) (by omega)) ?_)))))))))
  refine A.gk [.rd [vS ax xs cx], .p] [28, 29] [(8, vS ax xs cx)] [] (fun κ => κ.rd ⟨bs, 0, none⟩ [vS ax xs cx] ∧ True) ⟨(reads_oldblk r0 rfl), trivial⟩ ?_
  refine tr (A.gp [.p, .p] [8] [(31, vS al'1 ([] : List Int) cl'2), (32, vS ax xs cx)] ?_)
  refine A.cons (A.appendC (enc := encI) (xs := ([] : List Int)) xs 0 33 (e := 3) (z := (i_ 0)) (sz := 1) (by_ := 8) (by kernel_rfl) rfl rfl rfl (by kernel_rfl) (by kernel_rfl) (by rfl) (by decide) encI_len encI_one rfl (rd_old r1 (by simp [feet])) (by ((simp; omega))) (fun A4 c4 => [sI A4 xs c4]) (fun _ _ => rfl) ?_)
  intro A4 c4
  refine A.goA [.p] [(6, vS A4 xs c4), (25, (.slice (some ⟨bs, 0, none⟩) 2 2)), (26, i_ 2), (27, i_ 0)] [] T0 (by kernel_rfl) trivial ?_
  refine A.bn (tr (A.g [.p, .p] [] [(27, i_ 1)] ?_))
  refine A.tn (A.turnk (m := 398) ?_)
  refine A.sr (A.g [.p] [] [(28, b_ true)] ?_)
  refine A.tn (A.seq (A.ct (A.skip (A.tn (A.seq (A.block (A.sr (A.cons (A.q (some 29) (q_ bs 1) (by kernel_rfl) (qt_indexAddr (off := 0) (sz := 1) (el := 45) (e := 1) (len := 2) rfl rfl rfl (by kernel_rfl) (by kernel_rfl) (by omega)) ?_)))))))))
  refine A.gk [.rd [vS ay ys cy], .p] [28, 29] [(8, vS ay ys cy)] [] (fun κ => κ.rd ⟨bs, 1, none⟩ [vS ay ys cy] ∧ True) ⟨(reads_oldblk r0 rfl), trivial⟩ ?_
  refine tr (A.gp [.p, .p] [8] [(31, vS A4 xs c4), (32, vS ay ys cy)] ?_)
  refine A.cons (A.appendC (enc := encI) (xs := xs) ys 0 33 (e := 3) (z := (i_ 0)) (sz := 1) (by_ := 8) (by kernel_rfl) rfl rfl rfl (by kernel_rfl) (by kernel_rfl) (by rfl) (by decide) encI_len encI_one rfl (rd_old r2 (by simp [feet])) (by ((simp; omega))) (fun A5 c5 => [sI A5 (xs ++ ys) c5]) (fun _ _ => rfl) ?_)
  intro A5 c5
  refine A.goA [.p] [(6, vS A5 (xs ++ ys) c5), (25, (.slice (some ⟨bs, 0, none⟩) 2 2)), (26, i_ 2), (27, i_ 1)] [] T0 (by kernel_rfl) trivial ?_
  refine A.bn (tr (A.g [.p, .p] [] [(27, i_ 2)] ?_))
  refine A.tn (A.turnk (m := 397) ?_)
  refine A.sr (A.g [.p] [] [(28, b_ false)] ?_)
  refine A.tn (A.seq (A.cf (A.exit (A.te (A.te (A.bh (tsr (A.g [.p, .p] [6, 25, 26, 27, 28] [(2, vS A5 (xs ++ ys) c5)] ?_))))))))
  refine A.tn (A.ret (A.pK [0] [vS A5 (xs ++ ys) c5] (A5, c5) ?_ ?_))
  · rfl
  trivial
end Go.Proofs.Ytinnnoimmioaiaa
