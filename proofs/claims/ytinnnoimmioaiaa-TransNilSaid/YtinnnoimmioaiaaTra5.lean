/- What the functions of this layer do, proved operation by operation, for all arguments, under the conditions that each theorem states. -/
import Derived.Test.YtinnnoimmioaiaaProg
import Derived.Test.YtinnnoimmioaiaaTra4
import Derived.Test.YtinnnoimmioaiaaL2
namespace Go.Proofs.Ytinnnoimmioaiaa
open Go V
set_option linter.unusedVariables false
set_option linter.unusedSimpArgs false
set_option maxHeartbeats 4000000
set_option maxRecDepth 100000
/-! the example: a leaf that is added twice -/
abbrev zT : Zc := ⟨1, 1, 0, true, 5, 0, 5, 0, 0, 0, 0, 0, 0, 1, 9⟩
abbrev cT : Cl := ⟨1, 0, true, 5, 0, 5, 0, 0, 0, 0, 0, 0, 1, 9⟩
abbrev kT : List (Int × Cl) := [(1, cT)]
theorem zT_ok : ZcOk zT := by unfold ZcOk; decide
theorem st_T0 : stE [] zT = 0 := by decide
theorem st_T1 : stK [] zT = kT := by rfl
theorem st_T2 : stE kT zT = 8 := by decide
theorem keys1 (f : Cl → Bool) (hf : f cT = true) : keysF kT f = [1] := by
  unfold keysF
  rw [show (kT.filter fun p => f p.2).map (·.1) = [1] from by simp [hf]]
  exact sortI_sorted (by simp)
theorem keys0 (f : Cl → Bool) : keysF ([] : List (Int × Cl)) f = [] := by unfold keysF; simp [sort_nil]
theorem fit_T : fitE 1 [⟨5, 0, 5⟩] = 0 := by
  simp [fitE, mayE, fullW, knC, kraw, ofC, sortU, cmpct, Go.Lib.compactUpTo, slps, slV, badV]
theorem tr_T2 : trE [] 1 [zT, zT] = 8 ∧ trI [] 1 [zT, zT] = 1 := by
  have h1 : apE [] [zT, zT] = 8 := by
    show (if stE [] zT ≠ 0 then stE [] zT else if stE (stK [] zT) zT ≠ 0 then stE (stK [] zT) zT else 0) = 8
    rw [st_T0, st_T1, st_T2]; rfl
  have h2 : apI [] [zT, zT] = 1 := by
    show (if stE [] zT ≠ 0 then 0 else (if stE (stK [] zT) zT ≠ 0 then 0 else 0 + 1) + 1) = 1
    rw [st_T0, st_T1, st_T2]; rfl
  exact tr_3 (by decide) (by decide) ⟨h1, h2⟩ (by decide)
theorem tr_T1 : trE [] 1 [zT] = 0 := by
  have h1 : apE [] [zT] = 0 := by
    show (if stE [] zT ≠ 0 then stE [] zT else 0) = 0
    rw [st_T0]; rfl
  rw [(tr_4 (by decide) (by decide) h1).1]
  show fitE 1 (realsL (stK [] zT)) = 0
  rw [st_T1]; unfold realsL; rw [keys1 _ (by decide)]; exact fit_T
theorem ap_T : apK [] [zT] = kT := st_T1
theorem dif_T : difB [] kT 1 = true := by unfold difB; decide
theorem dif_T2 : difB kT [] 1 = true := by unfold difB; decide
theorem dif_same (kv : List (Int × Cl)) (i : Int) : difB kv kv i = false := by unfold difB; simp
theorem tch_same (kv : List (Int × Cl)) : tchL kv kv = [] := by
  unfold tchL
  rw [show (idsK kv ++ idsK kv).filter (difB kv kv) = [] from List.filter_eq_nil_iff.2 fun i _ => by rw [dif_same]; decide, sort_nil]; rfl
theorem cmp1 : Go.Lib.compact (sortI [1]) = [1] := by
  rw [sortI_sorted (by simp)]; rfl
theorem tch_T : tchL [] kT = [1] := by
  unfold tchL idsK
  have h : List.filter (difB [] kT) ([] ++ [1]) = [1] := by simp [dif_T]
  rw [keys0, keys1 (fun v_ => true) rfl, h]; exact cmp1
theorem tch_T2 : tchL kT [] = [1] := by
  unfold tchL idsK
  have h : List.filter (difB kT []) ([1] ++ []) = [1] := by simp [dif_T2]
  rw [keys0, keys1 (fun v_ => true) rfl, h]; exact cmp1
theorem rel_T : (tchL kT []).any (relB kT []) = true := by rw [tch_T2]; decide
theorem rel_T2 : (tchL kT kT).any (relB kT kT) = false := by rw [tch_same]; rfl

theorem ids_T (bt mb : Nat) (w : World) (r0 : (blk bt [(.map (some mb))] 124).holds w) (r1 : (mHI mb ([] : List (Int × Cl))).holds w) (hs : HS w (feet []) [] w) :
    Calls Try.prog 56 #[p_ bt] w fun e w' => ∃ zz, e = .returned ((fun (zz : (Option Addr) × Nat) => match zz with | (al', cl') => (.slice al' 0 cl')) zz) ∧ (fun (zz : (Option Addr) × Nat) => match zz with | (al', cl') => True) zz ∧ Turn [] ((fun (zz : (Option Addr) × Nat) => match zz with | (al', cl') => [sI al' ([] : List Int) cl']) zz) w w' := by
  refine (ids_ok bt mb [] (by simp) w r0 r1 hs).mono ?_
  rintro e w' ⟨⟨al', cl'⟩, rfl, h1, h2⟩
  rw [keys0] at h2
  exact ⟨(al', cl'), by show Ending.returned (vS al' (keysF [] _) cl') = _; rw [keys0]; rfl, trivial, h2⟩

theorem tch_T1 (bt mb bu mc : Nat) (w : World) (r0 : (blk bt [(.map (some mb))] 124).holds w) (r1 : (mHI mb ([] : List (Int × Cl))).holds w) (r2 : (blk bu [(.map (some mc))] 124).holds w) (r3 : (mHI mc kT).holds w) (hs : HS w (feet []) [] w) :
    Calls Try.prog 37 #[p_ bt, p_ bu] w fun e w' => ∃ zz, e = .returned ((fun (zz : (Option Addr) × Nat) => match zz with | (al', cl') => (.slice al' 1 cl')) zz) ∧ (fun (zz : (Option Addr) × Nat) => match zz with | (al', cl') => True) zz ∧ Turn [] ((fun (zz : (Option Addr) × Nat) => match zz with | (al', cl') => [sI al' ([1]) cl']) zz) w w' := by
  refine (tch_ok bt mb [] bu mc kT (by simp) (by simp) w r0 r1 r2 r3 hs).mono ?_
  rintro e w' ⟨⟨al', cl'⟩, rfl, h1, h2⟩
  rw [tch_T] at h2
  exact ⟨(al', cl'), by show Ending.returned (vS al' (tchL [] kT) cl') = _; rw [tch_T]; rfl, trivial, h2⟩

theorem rel_T1 (bt mb bu mc : Nat) (w : World) (r0 : (blk bt [(.map (some mb))] 124).holds w) (r1 : (mHI mb kT).holds w) (r2 : (blk bu [(.map (some mc))] 124).holds w) (r3 : (mHI mc ([] : List (Int × Cl))).holds w) :
    Calls Try.prog 38 #[p_ bt, p_ bu] w fun e w' => e = .returned (b_ true) ∧ Fr [] w w' := by
  refine (rel_ok bt mb kT bu mc [] (by simp) (by simp) w r0 r1 r2 r3).mono ?_
  rintro e w' ⟨rfl, h2⟩
  exact ⟨by rw [rel_T], h2⟩

theorem rel_T3 (bt mb : Nat) (w : World) (r0 : (blk bt [(.map (some mb))] 124).holds w) (r1 : (mHI mb kT).holds w) :
    Calls Try.prog 38 #[p_ bt, p_ bt] w fun e w' => e = .returned (b_ false) ∧ Fr [] w w' := by
  refine (rel_ok bt mb kT bt mb kT (by simp) (by simp) w r0 r1 r0 r1).mono ?_
  rintro e w' ⟨rfl, h2⟩
  exact ⟨by rw [rel_T2], h2⟩

theorem ints_T (al : Option Addr) (xs : List Int) (cl : Nat) (bl : Option Addr) (dl : Nat) (hx : xs.length ≤ 100000) (w : World) (r0 : arrAt w al (V.flat encI xs)) (r1 : arrAt w bl (V.flat encI xs)) :
    Calls Try.prog 29 #[vS al xs cl, vS bl xs dl] w fun e w' => e = .returned (b_ true) ∧ Fr [] w w' := by
  refine (ints_spec al xs cl bl xs dl hx w r0 r1).mono ?_
  rintro e w' ⟨rfl, h2⟩
  exact ⟨by simp, h2⟩

theorem twice_spec (w : World) :
    Calls Try.prog 39 #[] w fun e w' => e = .returned (b_ true) ∧ Fr [] w w' := by
  refine calls_of (args := []) (penv []) [] [] Try.func39 rfl rfl (look_penv _) (HS.nil w) ?_
  refine A.norm [] [] trivial rfl ?_
  refine A.sr (A.g [.p] [] [] ?_)
  refine tsr (A.g1 [.p, .p, .al, .st 0] [] (fun b1 => [(1, p_ b1)]) (fun b1 => []) (fun b1 => blk b1 [i_ 1, i_ 0, b_ true, u_ 5, u_ 0, u_ 5, u_ 0, u_ 0, u_ 0, u_ 0, u_ 0, u_ 0, i_ 1, i_ 9] 98) (fun b1 => [b1]) ?_)
  intro b1
  refine tsr (A.cons (A.cT (some 11) [] [] ((fun zz => match zz with | (bt2, mb3) => (p_ bt2))) ((fun zz => match zz with | (bt2, mb3) => True)) ((fun zz => match zz with | (bt2, mb3) => [blk bt2 [(.map (some mb3))] 124, mHI mb3 ([] : List (Int × Cl))])) (fun ww ss hh => hnew_spec ww hh) ?_))
  rintro ⟨bt2, mb3⟩ -
  refine A.g [.p] [11] [(2, p_ bt2)] ?_
  refine A.tn (A.seq ?_)
  have hL0 : Laid [] := laid_nil; have hK0 : AOk [] := ⟨[], kr_nil⟩; have hz2 : ∀ z ∈ [zT, zT], ZcOk z := (by intro z hz; simp at hz; subst hz; exact zT_ok); have hz1 : ∀ z ∈ [zT], ZcOk z := (by intro z hz; simp at hz; subst hz; exact zT_ok); have hok : trE [] 1 [zT, zT] ≠ 0 := (by rw [tr_T2.1]; decide); have hok1 : trE [] 1 [zT] = 0 := tr_T1
  refine A.region (A.gpk [.p, .ld 2, .p, .ld 2, .p] [] [(13, p_ bt2), (15, (.agg #[i_ 1, i_ 1, i_ 0, b_ true, u_ 5, u_ 0, u_ 5, u_ 0, u_ 0, u_ 0, u_ 0, u_ 0, u_ 0, i_ 1, i_ 9])), (17, (.agg #[i_ 1, i_ 1, i_ 0, b_ true, u_ 5, u_ 0, u_ 5, u_ 0, u_ 0, u_ 0, u_ 0, u_ 0, u_ 0, i_ 1, i_ 9]))] [b1, b1] T0 trivial ?_)
  refine A.cons (A.buildSlice 18 (e := 111) [i_ 1, i_ 1, i_ 0, b_ true, u_ 5, u_ 0, u_ 5, u_ 0, u_ 0, u_ 0, u_ 0, u_ 0, u_ 0, i_ 1, i_ 9, i_ 1, i_ 1, i_ 0, b_ true, u_ 5, u_ 0, u_ 5, u_ 0, u_ 0, u_ 0, u_ 0, u_ 0, u_ 0, i_ 1, i_ 9] (by kernel_rfl) rfl (fun _ => by kernel_rfl) (fun b4 => [blk bt2 [(.map (some mb3))] 124, mHI mb3 ([] : List (Int × Cl)), blk b1 [i_ 1, i_ 0, b_ true, u_ 5, u_ 0, u_ 5, u_ 0, u_ 0, u_ 0, u_ 0, u_ 0, u_ 0, i_ 1, i_ 9] 98, blk b4 [i_ 1, i_ 1, i_ 0, b_ true, u_ 5, u_ 0, u_ 5, u_ 0, u_ 0, u_ 0, u_ 0, u_ 0, u_ 0, i_ 1, i_ 9, i_ 1, i_ 1, i_ 0, b_ true, u_ 5, u_ 0, u_ 5, u_ 0, u_ 0, u_ 0, u_ 0, u_ 0, u_ 0, i_ 1, i_ 9] 111]) (fun _ => rfl) ?_)
  intro b4
  refine A.gk [.cq (.tuple #[n_, i_ (trI ([] : List (Int × Cl)) 1 ([(⟨1, 1, 0, true, 5, 0, 5, 0, 0, 0, 0, 0, 0, 1, 9⟩ : Zc), (⟨1, 1, 0, true, 5, 0, 5, 0, 0, 0, 0, 0, 0, 1, 9⟩ : Zc)])), i_ (trE ([] : List (Int × Cl)) 1 ([(⟨1, 1, 0, true, 5, 0, 5, 0, 0, 0, 0, 0, 0, 1, 9⟩ : Zc), (⟨1, 1, 0, true, 5, 0, 5, 0, 0, 0, 0, 0, 0, 1, 9⟩ : Zc)]))]), .p, .p, .p, .p, .p, .p, .p] [13, 15, 17, 18] [(3, n_), (4, i_ (trI ([] : List (Int × Cl)) 1 ([(⟨1, 1, 0, true, 5, 0, 5, 0, 0, 0, 0, 0, 0, 1, 9⟩ : Zc), (⟨1, 1, 0, true, 5, 0, 5, 0, 0, 0, 0, 0, 0, 1, 9⟩ : Zc)]))), (5, i_ (trE ([] : List (Int × Cl)) 1 ([(⟨1, 1, 0, true, 5, 0, 5, 0, 0, 0, 0, 0, 0, 1, 9⟩ : Zc), (⟨1, 1, 0, true, 5, 0, 5, 0, 0, 0, 0, 0, 0, 1, 9⟩ : Zc)])))] [] (fun κ => κ.call 36 [p_ bt2, i_ 1, (.slice (some ⟨b4, 0, none⟩) 2 2)] (.tuple #[n_, i_ (trI ([] : List (Int × Cl)) 1 ([(⟨1, 1, 0, true, 5, 0, 5, 0, 0, 0, 0, 0, 0, 1, 9⟩ : Zc), (⟨1, 1, 0, true, 5, 0, 5, 0, 0, 0, 0, 0, 0, 1, 9⟩ : Zc)])), i_ (trE ([] : List (Int × Cl)) 1 ([(⟨1, 1, 0, true, 5, 0, 5, 0, 0, 0, 0, 0, 0, 1, 9⟩ : Zc), (⟨1, 1, 0, true, 5, 0, 5, 0, 0, 0, 0, 0, 0, 1, 9⟩ : Zc)]))]) ∧ True) ⟨(fun ww ss => app_err bt2 mb3 ([] : List (Int × Cl)) 1 (some ⟨b4, 0, none⟩) ([(⟨1, 1, 0, true, 5, 0, 5, 0, 0, 0, 0, 0, 0, 1, 9⟩ : Zc), (⟨1, 1, 0, true, 5, 0, 5, 0, 0, 0, 0, 0, 0, 1, 9⟩ : Zc)]) 2 (by assumption) (by assumption) (by assumption) (by assumption) ww (ss.mem (i := 0) rfl) (ss.mem (i := 1) rfl) ((rd_blk (i := 3) rfl) ww ss)), trivial⟩ ?_
  refine A.tn (A.seq (A.sv 4 (i_ 1) (cgI (by exact tr_T2.2)) ?_))
  refine A.sv 5 (i_ 8) (cgI (by exact tr_T2.1)) ?_
  refine A.region (A.gpk [.p, .ld 2, .p] [1] [(24, p_ bt2), (26, (.agg #[i_ 1, i_ 1, i_ 0, b_ true, u_ 5, u_ 0, u_ 5, u_ 0, u_ 0, u_ 0, u_ 0, u_ 0, u_ 0, i_ 1, i_ 9]))] [b1] T0 trivial ?_)
  refine A.cons (A.buildSlice 27 (e := 111) [i_ 1, i_ 1, i_ 0, b_ true, u_ 5, u_ 0, u_ 5, u_ 0, u_ 0, u_ 0, u_ 0, u_ 0, u_ 0, i_ 1, i_ 9] (by kernel_rfl) rfl (fun _ => by kernel_rfl) (fun b5 => [blk bt2 [(.map (some mb3))] 124, mHI mb3 ([] : List (Int × Cl)), blk b1 [i_ 1, i_ 0, b_ true, u_ 5, u_ 0, u_ 5, u_ 0, u_ 0, u_ 0, u_ 0, u_ 0, u_ 0, i_ 1, i_ 9] 98, blk b4 [i_ 1, i_ 1, i_ 0, b_ true, u_ 5, u_ 0, u_ 5, u_ 0, u_ 0, u_ 0, u_ 0, u_ 0, u_ 0, i_ 1, i_ 9, i_ 1, i_ 1, i_ 0, b_ true, u_ 5, u_ 0, u_ 5, u_ 0, u_ 0, u_ 0, u_ 0, u_ 0, u_ 0, i_ 1, i_ 9] 111, blk b5 [i_ 1, i_ 1, i_ 0, b_ true, u_ 5, u_ 0, u_ 5, u_ 0, u_ 0, u_ 0, u_ 0, u_ 0, u_ 0, i_ 1, i_ 9] 111]) (fun _ => rfl) ?_)
  intro b5
  refine A.cons (A.cT (some 28) [p_ bt2, i_ 1, (.slice (some ⟨b5, 0, none⟩) 1 1)] [] ((fun zz => match zz with | (bc6, mc7) => (.tuple #[p_ bc6, i_ 0, i_ 0]))) ((fun zz => match zz with | (bc6, mc7) => True)) ((fun zz => match zz with | (bc6, mc7) => [blk bc6 [(.map (some mc7))] 124, mHI mc7 (apK ([] : List (Int × Cl)) ([(⟨1, 1, 0, true, 5, 0, 5, 0, 0, 0, 0, 0, 0, 1, 9⟩ : Zc)]))])) (fun ww ss hh => app_ok bt2 mb3 ([] : List (Int × Cl)) 1 (some ⟨b5, 0, none⟩) ([(⟨1, 1, 0, true, 5, 0, 5, 0, 0, 0, 0, 0, 0, 1, 9⟩ : Zc)]) 1 (by assumption) (by assumption) (by assumption) (by assumption) ww (ss.mem (i := 0) rfl) (ss.mem (i := 1) rfl) ((rd_blk (i := 4) rfl) ww ss) hh) ?_)
  rintro ⟨bc6, mc7⟩ -
  refine A.g [.p, .p, .p, .p, .p, .p, .p] [24, 26, 27, 28] [(6, p_ bc6), (7, i_ 0), (8, i_ 0)] ?_
  refine A.tn (A.seq (?_))
  refine A.region (A.gp [.p, .p, .p, .p, .p, .p, .p, .p, .p, .p, .p, .p, .p, .p, .p, .p, .p, .p, .p, .p, .p, .p, .p, .p] [3, 4, 5, 7, 8] [(54, b_ true), (55, p_ bt2)] ?_)
  refine A.cons (A.cT (some 56) [p_ bt2] [] ((fun zz => match zz with | (al'8, cl'9) => (.slice al'8 0 cl'9))) ((fun zz => match zz with | (al'8, cl'9) => True)) ((fun zz => match zz with | (al'8, cl'9) => [sI al'8 ([] : List Int) cl'9])) (fun ww ss hh => ids_T bt2 mb3 ww (ss.mem (i := 2) rfl) (ss.mem (i := 3) rfl) hh) ?_)
  rintro ⟨al'8, cl'9⟩ -
  refine A.gp [.p, .p, .p, .p, .p, .p] [54, 55, 56] [(60, b_ true), (61, p_ bt2), (62, p_ bc6)] ?_
  refine A.cons (A.cT (some 63) [p_ bt2, p_ bc6] [] ((fun zz => match zz with | (al'11, cl'12) => (.slice al'11 1 cl'12))) ((fun zz => match zz with | (al'11, cl'12) => True)) ((fun zz => match zz with | (al'11, cl'12) => [sI al'11 ([1]) cl'12])) (fun ww ss hh => tch_T1 bt2 mb3 bc6 mc7 ww (ss.mem (i := 3) rfl) (ss.mem (i := 4) rfl) (ss.mem (i := 1) rfl) (ss.mem (i := 2) rfl) hh) ?_)
  rintro ⟨al'11, cl'12⟩ -
  refine A.cons (A.buildSlice 64 (e := 3) [i_ 1] (by kernel_rfl) rfl (fun _ => by kernel_rfl) (fun b14 => [sI al'11 ([1]) cl'12, sI al'8 ([] : List Int) cl'9, blk bc6 [(.map (some mc7))] 124, mHI mc7 kT, blk bt2 [(.map (some mb3))] 124, mHI mb3 ([] : List (Int × Cl)), blk b1 [i_ 1, i_ 0, b_ true, u_ 5, u_ 0, u_ 5, u_ 0, u_ 0, u_ 0, u_ 0, u_ 0, u_ 0, i_ 1, i_ 9] 98, blk b4 [i_ 1, i_ 1, i_ 0, b_ true, u_ 5, u_ 0, u_ 5, u_ 0, u_ 0, u_ 0, u_ 0, u_ 0, u_ 0, i_ 1, i_ 9, i_ 1, i_ 1, i_ 0, b_ true, u_ 5, u_ 0, u_ 5, u_ 0, u_ 0, u_ 0, u_ 0, u_ 0, u_ 0, i_ 1, i_ 9] 111, blk b5 [i_ 1, i_ 1, i_ 0, b_ true, u_ 5, u_ 0, u_ 5, u_ 0, u_ 0, u_ 0, u_ 0, u_ 0, u_ 0, i_ 1, i_ 9] 111, blk b14 [i_ 1] 3]) (fun _ => rfl) ?_)
  intro b14
  refine A.gk [.cq (b_ true), .p, .p, .p, .p, .cq (b_ true), .p, .p, .p, .p, .cq (b_ false), .p, .p, .p] [2, 6, 60, 61, 62, 63, 64] [(0, b_ true)] [] (fun κ => κ.call 29 [(.slice al'11 1 cl'12), (.slice (some ⟨b14, 0, none⟩) 1 1)] (b_ true) ∧ κ.call 38 [p_ bc6, p_ bt2] (b_ true) ∧ κ.call 38 [p_ bc6, p_ bc6] (b_ false) ∧ True) ⟨(fun ww ss => ints_T al'11 ([1]) cl'12 (some ⟨b14, 0, none⟩) 1 (by (simp; done)) ww ((rd_sl (i := 0) rfl) ww ss) ((rd_blk (i := 9) rfl) ww ss)), (fun ww ss => rel_T1 bc6 mc7 bt2 mb3 ww (ss.mem (i := 2) rfl) (ss.mem (i := 3) rfl) (ss.mem (i := 4) rfl) (ss.mem (i := 5) rfl)), (fun ww ss => rel_T3 bc6 mc7 ww (ss.mem (i := 2) rfl) (ss.mem (i := 3) rfl)), trivial⟩ ?_
  refine A.tn (A.ret (A.pQ [b_ true] ?_))
  rfl
end Go.Proofs.Ytinnnoimmioaiaa
