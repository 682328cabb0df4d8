/- What the functions of this layer do, proved operation by operation, for all arguments, under the conditions that each theorem states. -/
import Derived.Test.YtdhcglflmkjneaaProg
import Derived.Test.YtdhcglflmkjneaaElt2
namespace Go.Proofs.Ytdhcglflmkjneaa
open Go V
set_option linter.unusedVariables false
set_option linter.unusedSimpArgs false
structure EA where
  ek : Int
  ei : Int
  ea : Int
  eb : Int
  en : Int
  deriving Inhabited, DecidableEq
def encEA (x : EA) : List Value := [(i_ x.ek), (i_ x.ei), (u_ x.ea), (u_ x.eb), (u_ x.en)]
theorem encEA_len (x : EA) : (encEA x).length = 5 := rfl
theorem encEA_one (x : EA) : (encEA x).all Value.oneCell' = true := rfl
def EAOk (x : EA) : Prop := ((-9223372036854775808) ≤ x.ek ∧ x.ek ≤ 9223372036854775807) ∧ ((-9223372036854775808) ≤ x.ei ∧ x.ei ≤ 9223372036854775807) ∧ (0 ≤ x.ea ∧ x.ea ≤ 18446744073709551615) ∧ (0 ≤ x.eb ∧ x.eb ≤ 18446744073709551615) ∧ (0 ≤ x.en ∧ x.en ≤ 18446744073709551615)
def ksEA : List FK := [.int .i64, .int .i64, .int .u64, .int .u64, .int .u64]
theorem openEA (cs : List Value) (h : FitsL ksEA cs) : ∃ x, cs = encEA x ∧ EAOk x := by
  unfold ksEA at h
  obtain ⟨v0, cs0, rfl, h0, g0⟩ := fitsL_cons h
  obtain ⟨a0, rfl, r0⟩ := fit_i64 h0
  obtain ⟨v1, cs1, rfl, h1, g1⟩ := fitsL_cons g0
  obtain ⟨a1, rfl, r1⟩ := fit_i64 h1
  obtain ⟨v2, cs2, rfl, h2, g2⟩ := fitsL_cons g1
  obtain ⟨a2, rfl, r2⟩ := fit_u64 h2
  obtain ⟨v3, cs3, rfl, h3, g3⟩ := fitsL_cons g2
  obtain ⟨a3, rfl, r3⟩ := fit_u64 h3
  obtain ⟨v4, cs4, rfl, h4, g4⟩ := fitsL_cons g3
  obtain ⟨a4, rfl, r4⟩ := fit_u64 h4
  obtain rfl := fitsL_nil g4
  exact ⟨⟨a0, a1, a2, a3, a4⟩, rfl, r0, r1, r2, r3, r4⟩
structure VA where
  wk : Int
  wi : Int
  wa : Int
  wb : Int
  wn : Int
  deriving Inhabited, DecidableEq
def encVA (x : VA) : List Value := [(i_ x.wk), (i_ x.wi), (u_ x.wa), (u_ x.wb), (u_ x.wn)]
theorem encVA_len (x : VA) : (encVA x).length = 5 := rfl
theorem encVA_one (x : VA) : (encVA x).all Value.oneCell' = true := rfl
def VAOk (x : VA) : Prop := ((-9223372036854775808) ≤ x.wk ∧ x.wk ≤ 9223372036854775807) ∧ ((-9223372036854775808) ≤ x.wi ∧ x.wi ≤ 9223372036854775807) ∧ (0 ≤ x.wa ∧ x.wa ≤ 18446744073709551615) ∧ (0 ≤ x.wb ∧ x.wb ≤ 18446744073709551615) ∧ (0 ≤ x.wn ∧ x.wn ≤ 18446744073709551615)
def ksVA : List FK := [.int .i64, .int .i64, .int .u64, .int .u64, .int .u64]
theorem openVA (cs : List Value) (h : FitsL ksVA cs) : ∃ x, cs = encVA x ∧ VAOk x := by
  unfold ksVA at h
  obtain ⟨v0, cs0, rfl, h0, g0⟩ := fitsL_cons h
  obtain ⟨a0, rfl, r0⟩ := fit_i64 h0
  obtain ⟨v1, cs1, rfl, h1, g1⟩ := fitsL_cons g0
  obtain ⟨a1, rfl, r1⟩ := fit_i64 h1
  obtain ⟨v2, cs2, rfl, h2, g2⟩ := fitsL_cons g1
  obtain ⟨a2, rfl, r2⟩ := fit_u64 h2
  obtain ⟨v3, cs3, rfl, h3, g3⟩ := fitsL_cons g2
  obtain ⟨a3, rfl, r3⟩ := fit_u64 h3
  obtain ⟨v4, cs4, rfl, h4, g4⟩ := fitsL_cons g3
  obtain ⟨a4, rfl, r4⟩ := fit_u64 h4
  obtain rfl := fitsL_nil g4
  exact ⟨⟨a0, a1, a2, a3, a4⟩, rfl, r0, r1, r2, r3, r4⟩

set_option maxHeartbeats 4000000 in
set_option maxRecDepth 100000 in
theorem el_two (w : World) :
    Calls Try.prog 9 #[] w fun e w' => e = .returned (b_ true) ∧ Fr [] w w' := by
  refine calls_of (args := []) (penv []) [] [] Try.func9 rfl rfl (look_penv _) (HS.nil w) ?_
  refine A.norm [] [] trivial rfl ?_
  refine A.seq ?_
  refine A.region (A.goA [.p] [(0, (b_ false))] [] T0 (by kernel_rfl) trivial ?_)
  refine A.tn ?_
  refine A.seq ?_
  refine A.region ?_
  refine A.cons (A.callT (some 10) [] [] ((fun zz => match zz with | (be1, bt2, mb3) => (p_ be1))) ((fun zz => match zz with | (be1, bt2, mb3) => True)) ((fun zz => match zz with | (be1, bt2, mb3) => [blk be1 [(p_ bt2), (.map (some mb3))] 64, blk bt2 [(.pointer (T.ptr T.nil))] 86, treeI 92 T.nil, mapI (fun k : Int => i_ k) (fun y : It => (.agg #[u_ y.ka, i_ y.ki, u_ y.va, i_ y.vi])) mb3 ([] : List (Int × It))])) (fun zz => match zz with | (be1, bt2, mb3) => [blk be1 [(p_ bt2), (.map (some mb3))] 64, blk bt2 [(.pointer (T.ptr T.nil))] 86, treeI 92 T.nil, mapI (fun k : Int => i_ k) (fun y : It => (.agg #[u_ y.ka, i_ y.ki, u_ y.va, i_ y.vi])) mb3 ([] : List (Int × It))]) (by kernel_rfl) rfl rfl (fun ww ss hh => el_new ww hh) (fun _ => rfl) ?_)
  rintro ⟨be1, bt2, mb3⟩ -
  refine A.goA [.p] [(0, (b_ false)), (1, (p_ be1))] [] T0 (by kernel_rfl) trivial ?_
  refine A.tn ?_
  refine A.seq ?_
  refine A.region (A.goP [.p] [(0, (b_ false)), (1, (p_ be1)), (11, (p_ be1))] [] T0 (by kernel_rfl) trivial ?_)
  refine A.cons (A.callT (some 12) [(p_ be1), (i_ 1), (u_ 5), (u_ 9)] [0, 0, 0, 0] ((fun zt4 => (i_ 0))) ((fun zt4 => ERel zt4 (mput (mdel ([] : List (Int × It)) 1) 1 ⟨5, 1, 9, 1⟩))) ((fun zt4 => [blk be1 [(p_ bt2), (.map (some mb3))] 64, blk bt2 [(.pointer (T.ptr zt4))] 86, treeI 92 zt4, mapI (fun k : Int => i_ k) (fun y : It => (.agg #[u_ y.ka, i_ y.ki, u_ y.va, i_ y.vi])) mb3 (mput (mdel ([] : List (Int × It)) 1) 1 ⟨5, 1, 9, 1⟩)])) (fun zt4 => [blk be1 [(p_ bt2), (.map (some mb3))] 64, blk bt2 [(.pointer (T.ptr zt4))] 86, treeI 92 zt4, mapI (fun k : Int => i_ k) (fun y : It => (.agg #[u_ y.ka, i_ y.ki, u_ y.va, i_ y.vi])) mb3 (mput (mdel ([] : List (Int × It)) 1) 1 ⟨5, 1, 9, 1⟩)]) (by kernel_rfl) rfl rfl (fun ww ss hh => el_set be1 bt2 mb3 T.nil ([] : List (Int × It)) 1 5 9 (by first | assumption | exact erel_nil | (show _ ≤ _; decide) | omega) (by first | assumption | exact erel_nil | (show _ ≤ _; decide) | omega) ww hh) (fun _ => rfl) ?_)
  rintro zt4 hz2
  have hz2W := hz2.wf; have hz2l := hz2.len
  refine A.goP [.p] [(0, (b_ false)), (1, (p_ be1)), (12, (i_ 0)), (13, (p_ be1))] [] T0 (by kernel_rfl) trivial ?_
  refine A.cons (A.callT (some 14) [(p_ be1), (i_ 2), (u_ 3), (u_ 20)] [0, 0, 0, 0] ((fun zt5 => (i_ 0))) ((fun zt5 => ERel zt5 (mput (mdel (mput (mdel ([] : List (Int × It)) 1) 1 ⟨5, 1, 9, 1⟩) 2) 2 ⟨3, 2, 20, 2⟩))) ((fun zt5 => [blk be1 [(p_ bt2), (.map (some mb3))] 64, blk bt2 [(.pointer (T.ptr zt5))] 86, treeI 92 zt5, mapI (fun k : Int => i_ k) (fun y : It => (.agg #[u_ y.ka, i_ y.ki, u_ y.va, i_ y.vi])) mb3 (mput (mdel (mput (mdel ([] : List (Int × It)) 1) 1 ⟨5, 1, 9, 1⟩) 2) 2 ⟨3, 2, 20, 2⟩)])) (fun zt5 => [blk be1 [(p_ bt2), (.map (some mb3))] 64, blk bt2 [(.pointer (T.ptr zt5))] 86, treeI 92 zt5, mapI (fun k : Int => i_ k) (fun y : It => (.agg #[u_ y.ka, i_ y.ki, u_ y.va, i_ y.vi])) mb3 (mput (mdel (mput (mdel ([] : List (Int × It)) 1) 1 ⟨5, 1, 9, 1⟩) 2) 2 ⟨3, 2, 20, 2⟩)]) (by kernel_rfl) rfl rfl (fun ww ss hh => el_set be1 bt2 mb3 zt4 (mput (mdel ([] : List (Int × It)) 1) 1 ⟨5, 1, 9, 1⟩) 2 3 20 (by first | assumption | exact erel_nil | (show _ ≤ _; decide) | omega) (by first | assumption | exact erel_nil | (show _ ≤ _; decide) | omega) ww hh) (fun _ => rfl) ?_)
  rintro zt5 hz3
  have hz3W := hz3.wf; have hz3l := hz3.len
  refine A.goA [.p, .p] [(0, (b_ false)), (1, (p_ be1)), (2, (i_ 0)), (3, (i_ 0))] [] T0 (by kernel_rfl) trivial ?_
  refine A.tn ?_
  refine A.seq ?_
  refine A.region (A.goA [.p, .cq (.tuple #[(i_ (((belowL (imin 4 9223372036854775807) zt5.toL).getD default).ki)), (b_ ((belowL (imin 4 9223372036854775807) zt5.toL).isSome))]), .p, .p, .p, .p, .p] [(0, (b_ false)), (1, (p_ be1)), (2, (i_ 0)), (3, (i_ 0)), (4, (i_ (((belowL (imin 4 9223372036854775807) zt5.toL).getD default).ki))), (5, (b_ ((belowL (imin 4 9223372036854775807) zt5.toL).isSome)))] [] (fun κ => κ.call 18 [(p_ be1), (u_ 4)] (.tuple #[(i_ (((belowL (imin 4 9223372036854775807) zt5.toL).getD default).ki)), (b_ ((belowL (imin 4 9223372036854775807) zt5.toL).isSome))]) ∧ True) (by kernel_rfl) ⟨(fun ww ss => el_pick be1 bt2 mb3 zt5 (mput (mdel (mput (mdel ([] : List (Int × It)) 1) 1 ⟨5, 1, 9, 1⟩) 2) 2 ⟨3, 2, 20, 2⟩) 4 (by first | assumption | exact erel_nil | (show _ ≤ _; decide) | omega) ww (ss.mem (i := 0) rfl) (ss.mem (i := 1) rfl) (ss.mem (i := 2) rfl) (ss.mem (i := 3) rfl)), trivial⟩ ?_)
  refine A.tn ?_
  refine A.seq ?_
  refine A.region (A.goA [.p, .cq (.tuple #[(i_ (((belowL (imin 5 9223372036854775807) zt5.toL).getD default).ki)), (b_ ((belowL (imin 5 9223372036854775807) zt5.toL).isSome))]), .p, .p, .p, .p, .p] [(0, (b_ false)), (1, (p_ be1)), (2, (i_ 0)), (3, (i_ 0)), (4, (i_ (((belowL (imin 4 9223372036854775807) zt5.toL).getD default).ki))), (5, (b_ ((belowL (imin 4 9223372036854775807) zt5.toL).isSome))), (6, (i_ (((belowL (imin 5 9223372036854775807) zt5.toL).getD default).ki))), (7, (b_ ((belowL (imin 5 9223372036854775807) zt5.toL).isSome)))] [] (fun κ => κ.call 18 [(p_ be1), (u_ 5)] (.tuple #[(i_ (((belowL (imin 5 9223372036854775807) zt5.toL).getD default).ki)), (b_ ((belowL (imin 5 9223372036854775807) zt5.toL).isSome))]) ∧ True) (by kernel_rfl) ⟨(fun ww ss => el_pick be1 bt2 mb3 zt5 (mput (mdel (mput (mdel ([] : List (Int × It)) 1) 1 ⟨5, 1, 9, 1⟩) 2) 2 ⟨3, 2, 20, 2⟩) 5 (by first | assumption | exact erel_nil | (show _ ≤ _; decide) | omega) ww (ss.mem (i := 0) rfl) (ss.mem (i := 1) rfl) (ss.mem (i := 2) rfl) (ss.mem (i := 3) rfl)), trivial⟩ ?_)
  refine A.tn ?_
  refine A.seq ?_
  refine A.region (A.goA [.p, .cq (.tuple #[(i_ (((belowL (imin 2 9223372036854775807) zt5.toL).getD default).ki)), (b_ ((belowL (imin 2 9223372036854775807) zt5.toL).isSome))]), .p, .p, .p, .p, .p] [(0, (b_ false)), (1, (p_ be1)), (2, (i_ 0)), (3, (i_ 0)), (4, (i_ (((belowL (imin 4 9223372036854775807) zt5.toL).getD default).ki))), (5, (b_ ((belowL (imin 4 9223372036854775807) zt5.toL).isSome))), (6, (i_ (((belowL (imin 5 9223372036854775807) zt5.toL).getD default).ki))), (7, (b_ ((belowL (imin 5 9223372036854775807) zt5.toL).isSome))), (9, (b_ ((belowL (imin 2 9223372036854775807) zt5.toL).isSome)))] [] (fun κ => κ.call 18 [(p_ be1), (u_ 2)] (.tuple #[(i_ (((belowL (imin 2 9223372036854775807) zt5.toL).getD default).ki)), (b_ ((belowL (imin 2 9223372036854775807) zt5.toL).isSome))]) ∧ True) (by kernel_rfl) ⟨(fun ww ss => el_pick be1 bt2 mb3 zt5 (mput (mdel (mput (mdel ([] : List (Int × It)) 1) 1 ⟨5, 1, 9, 1⟩) 2) 2 ⟨3, 2, 20, 2⟩) 2 (by first | assumption | exact erel_nil | (show _ ≤ _; decide) | omega) ww (ss.mem (i := 0) rfl) (ss.mem (i := 1) rfl) (ss.mem (i := 2) rfl) (ss.mem (i := 3) rfl)), trivial⟩ ?_)
  refine A.tn ?_
  refine A.seq ?_
  refine A.region (A.goA [.p, .p, .p, .p, .p, .p, .p, .p, .p, .p, .o, .p, .cl, .p, .o, .p, .p, .cl, .p, .o, .p, .p, .cl, .p, .o, .p, .p, .cl, .p, .o, .p, .cq (u_ (nextV zt5.toL)), .p, .cl, .p, .o, .p, .cq (i_ ((mput (mdel (mput (mdel ([] : List (Int × It)) 1) 1 ⟨5, 1, 9, 1⟩) 2) 2 ⟨3, 2, 20, 2⟩).length : Int)), .p, .cl, .p] [(0, (b_ ((((((((belowL (imin 4 9223372036854775807) zt5.toL).isSome) && ((belowL (imin 5 9223372036854775807) zt5.toL).isSome)) && (!((belowL (imin 2 9223372036854775807) zt5.toL).isSome))) && ((((belowL (imin 4 9223372036854775807) zt5.toL).getD default).ki) == 2)) && ((((belowL (imin 5 9223372036854775807) zt5.toL).getD default).ki) == 1)) && ((nextV zt5.toL) == 3)) && (((mput (mdel (mput (mdel ([] : List (Int × It)) 1) 1 ⟨5, 1, 9, 1⟩) 2) 2 ⟨3, 2, 20, 2⟩).length : Int) == 2)))), (1, (p_ be1)), (2, (i_ 0)), (3, (i_ 0)), (4, (i_ (((belowL (imin 4 9223372036854775807) zt5.toL).getD default).ki))), (5, (b_ ((belowL (imin 4 9223372036854775807) zt5.toL).isSome))), (6, (i_ (((belowL (imin 5 9223372036854775807) zt5.toL).getD default).ki))), (7, (b_ ((belowL (imin 5 9223372036854775807) zt5.toL).isSome))), (9, (b_ ((belowL (imin 2 9223372036854775807) zt5.toL).isSome)))] [] (fun κ => ((true && (((((((belowL (imin 4 9223372036854775807) zt5.toL).isSome) && ((belowL (imin 5 9223372036854775807) zt5.toL).isSome)) && (!((belowL (imin 2 9223372036854775807) zt5.toL).isSome))) && ((((belowL (imin 4 9223372036854775807) zt5.toL).getD default).ki) == 2)) && ((((belowL (imin 5 9223372036854775807) zt5.toL).getD default).ki) == 1)) == true)) = true → κ.call 20 [(p_ be1)] (u_ (nextV zt5.toL))) ∧ ((true && ((((((((belowL (imin 4 9223372036854775807) zt5.toL).isSome) && ((belowL (imin 5 9223372036854775807) zt5.toL).isSome)) && (!((belowL (imin 2 9223372036854775807) zt5.toL).isSome))) && ((((belowL (imin 4 9223372036854775807) zt5.toL).getD default).ki) == 2)) && ((((belowL (imin 5 9223372036854775807) zt5.toL).getD default).ki) == 1)) && ((nextV zt5.toL) == 3)) == true)) = true → κ.call 21 [(p_ be1)] (i_ ((mput (mdel (mput (mdel ([] : List (Int × It)) 1) 1 ⟨5, 1, 9, 1⟩) 2) 2 ⟨3, 2, 20, 2⟩).length : Int))) ∧ True) (by kernel_rfl) ⟨(fun h_ => (fun ww ss => el_next be1 bt2 mb3 zt5 (mput (mdel (mput (mdel ([] : List (Int × It)) 1) 1 ⟨5, 1, 9, 1⟩) 2) 2 ⟨3, 2, 20, 2⟩) (by first | assumption | exact erel_nil | (show _ ≤ _; decide) | omega) ww (ss.mem (i := 0) rfl) (ss.mem (i := 1) rfl) (ss.mem (i := 2) rfl) (ss.mem (i := 3) rfl))), (fun h_ => (fun ww ss => el_len be1 bt2 mb3 zt5 (mput (mdel (mput (mdel ([] : List (Int × It)) 1) 1 ⟨5, 1, 9, 1⟩) 2) 2 ⟨3, 2, 20, 2⟩) ww (ss.mem (i := 0) rfl) (ss.mem (i := 1) rfl) (ss.mem (i := 2) rfl) (ss.mem (i := 3) rfl))), trivial⟩ ?_)
  refine A.tn ?_
  refine A.ret ?_
  refine A.postQ [(b_ ((((((((belowL (imin 4 9223372036854775807) zt5.toL).isSome) && ((belowL (imin 5 9223372036854775807) zt5.toL).isSome)) && (!((belowL (imin 2 9223372036854775807) zt5.toL).isSome))) && ((((belowL (imin 4 9223372036854775807) zt5.toL).getD default).ki) == 2)) && ((((belowL (imin 5 9223372036854775807) zt5.toL).getD default).ki) == 1)) && ((nextV zt5.toL) == 3)) && (((mput (mdel (mput (mdel ([] : List (Int × It)) 1) 1 ⟨5, 1, 9, 1⟩) 2) 2 ⟨3, 2, 20, 2⟩).length : Int) == 2)))] (fun aa ww rr ss => ⟨rv_tmp rr rfl, trivial⟩) ?_
  show ((b_ ((((((((belowL (imin 4 9223372036854775807) zt5.toL).isSome) && ((belowL (imin 5 9223372036854775807) zt5.toL).isSome)) && (!((belowL (imin 2 9223372036854775807) zt5.toL).isSome))) && ((((belowL (imin 4 9223372036854775807) zt5.toL).getD default).ki) == 2)) && ((((belowL (imin 5 9223372036854775807) zt5.toL).getD default).ki) == 1)) && ((nextV zt5.toL) == 3)) && (((mput (mdel (mput (mdel ([] : List (Int × It)) 1) 1 ⟨5, 1, 9, 1⟩) 2) 2 ⟨3, 2, 20, 2⟩).length : Int) == 2))) : Value) = (b_ true)
  rw [erel_list (by assumption : ERel zt5 _)]; exact congrArg Value.bool (by decide)

set_option maxHeartbeats 4000000 in
set_option maxRecDepth 100000 in
theorem vt_two (w : World) :
    Calls Try.prog 22 #[] w fun e w' => e = .returned (b_ true) ∧ Fr [] w w' := by
  refine calls_of (args := []) (penv []) [] [] Try.func22 rfl rfl (look_penv _) (HS.nil w) ?_
  refine A.norm [] [] trivial rfl ?_
  refine A.seq ?_
  refine A.region (A.goA [.p] [(0, (b_ false))] [] T0 (by kernel_rfl) trivial ?_)
  refine A.tn ?_
  refine A.seq ?_
  refine A.region ?_
  refine A.cons (A.callT (some 10) [] [] ((fun zz => match zz with | (be1, bt2, mb3) => (p_ be1))) ((fun zz => match zz with | (be1, bt2, mb3) => True)) ((fun zz => match zz with | (be1, bt2, mb3) => [blk be1 [(p_ bt2), (.map (some mb3))] 82, blk bt2 [(.pointer (T.ptr T.nil))] 86, treeI 92 T.nil, mapI (fun k : Int => i_ k) (fun y : It => (.agg #[u_ y.ka, i_ y.ki, u_ y.va, i_ y.vi])) mb3 ([] : List (Int × It))])) (fun zz => match zz with | (be1, bt2, mb3) => [blk be1 [(p_ bt2), (.map (some mb3))] 82, blk bt2 [(.pointer (T.ptr T.nil))] 86, treeI 92 T.nil, mapI (fun k : Int => i_ k) (fun y : It => (.agg #[u_ y.ka, i_ y.ki, u_ y.va, i_ y.vi])) mb3 ([] : List (Int × It))]) (by kernel_rfl) rfl rfl (fun ww ss hh => vt_new ww hh) (fun _ => rfl) ?_)
  rintro ⟨be1, bt2, mb3⟩ -
  refine A.goA [.p] [(0, (b_ false)), (1, (p_ be1))] [] T0 (by kernel_rfl) trivial ?_
  refine A.tn ?_
  refine A.seq ?_
  refine A.region (A.goP [.p] [(0, (b_ false)), (1, (p_ be1)), (11, (p_ be1))] [] T0 (by kernel_rfl) trivial ?_)
  refine A.cons (A.callT (some 12) [(p_ be1), (i_ 1), (u_ 7), (u_ 0)] [0, 0, 0, 0] ((fun zt4 => (i_ 0))) ((fun zt4 => ERel zt4 (mput ([] : List (Int × It)) 1 ⟨7, 1, 0, 1⟩))) ((fun zt4 => [blk be1 [(p_ bt2), (.map (some mb3))] 82, blk bt2 [(.pointer (T.ptr zt4))] 86, treeI 92 zt4, mapI (fun k : Int => i_ k) (fun y : It => (.agg #[u_ y.ka, i_ y.ki, u_ y.va, i_ y.vi])) mb3 (mput ([] : List (Int × It)) 1 ⟨7, 1, 0, 1⟩)])) (fun zt4 => [blk be1 [(p_ bt2), (.map (some mb3))] 82, blk bt2 [(.pointer (T.ptr zt4))] 86, treeI 92 zt4, mapI (fun k : Int => i_ k) (fun y : It => (.agg #[u_ y.ka, i_ y.ki, u_ y.va, i_ y.vi])) mb3 (mput ([] : List (Int × It)) 1 ⟨7, 1, 0, 1⟩)]) (by kernel_rfl) rfl rfl (fun ww ss hh => vt_set be1 bt2 mb3 T.nil ([] : List (Int × It)) 1 7 0 (by first | assumption | exact erel_nil | (show _ ≤ _; decide) | omega) (by first | assumption | exact erel_nil | (show _ ≤ _; decide) | omega) ww hh) (fun _ => rfl) ?_)
  rintro zt4 hz2
  have hz2W := hz2.wf; have hz2l := hz2.len
  refine A.goP [.p] [(0, (b_ false)), (1, (p_ be1)), (12, (i_ 0)), (13, (p_ be1))] [] T0 (by kernel_rfl) trivial ?_
  refine A.cons (A.callT (some 14) [(p_ be1), (i_ 2), (u_ 3), (u_ 10)] [0, 0, 0, 0] ((fun zt5 => (i_ 0))) ((fun zt5 => ERel zt5 (mput (mput ([] : List (Int × It)) 1 ⟨7, 1, 0, 1⟩) 2 ⟨3, 2, 10, 2⟩))) ((fun zt5 => [blk be1 [(p_ bt2), (.map (some mb3))] 82, blk bt2 [(.pointer (T.ptr zt5))] 86, treeI 92 zt5, mapI (fun k : Int => i_ k) (fun y : It => (.agg #[u_ y.ka, i_ y.ki, u_ y.va, i_ y.vi])) mb3 (mput (mput ([] : List (Int × It)) 1 ⟨7, 1, 0, 1⟩) 2 ⟨3, 2, 10, 2⟩)])) (fun zt5 => [blk be1 [(p_ bt2), (.map (some mb3))] 82, blk bt2 [(.pointer (T.ptr zt5))] 86, treeI 92 zt5, mapI (fun k : Int => i_ k) (fun y : It => (.agg #[u_ y.ka, i_ y.ki, u_ y.va, i_ y.vi])) mb3 (mput (mput ([] : List (Int × It)) 1 ⟨7, 1, 0, 1⟩) 2 ⟨3, 2, 10, 2⟩)]) (by kernel_rfl) rfl rfl (fun ww ss hh => vt_set be1 bt2 mb3 zt4 (mput ([] : List (Int × It)) 1 ⟨7, 1, 0, 1⟩) 2 3 10 (by first | assumption | exact erel_nil | (show _ ≤ _; decide) | omega) (by first | assumption | exact erel_nil | (show _ ≤ _; decide) | omega) ww hh) (fun _ => rfl) ?_)
  rintro zt5 hz3
  have hz3W := hz3.wf; have hz3l := hz3.len
  refine A.goA [.p, .p] [(0, (b_ false)), (1, (p_ be1)), (2, (i_ 0)), (3, (i_ 0))] [] T0 (by kernel_rfl) trivial ?_
  refine A.tn ?_
  refine A.seq ?_
  refine A.region (A.goA [.p, .cq (.tuple #[(i_ (((firstL (imin 9 9223372036854775807) zt5.toL).getD default).ki)), (b_ ((firstL (imin 9 9223372036854775807) zt5.toL).isSome))]), .p, .p, .p, .p, .p] [(0, (b_ false)), (1, (p_ be1)), (2, (i_ 0)), (3, (i_ 0)), (4, (i_ (((firstL (imin 9 9223372036854775807) zt5.toL).getD default).ki))), (5, (b_ ((firstL (imin 9 9223372036854775807) zt5.toL).isSome)))] [] (fun κ => κ.call 27 [(p_ be1), (u_ 9)] (.tuple #[(i_ (((firstL (imin 9 9223372036854775807) zt5.toL).getD default).ki)), (b_ ((firstL (imin 9 9223372036854775807) zt5.toL).isSome))]) ∧ True) (by kernel_rfl) ⟨(fun ww ss => vt_pick be1 bt2 mb3 zt5 (mput (mput ([] : List (Int × It)) 1 ⟨7, 1, 0, 1⟩) 2 ⟨3, 2, 10, 2⟩) 9 (by first | assumption | exact erel_nil | (show _ ≤ _; decide) | omega) ww (ss.mem (i := 0) rfl) (ss.mem (i := 1) rfl) (ss.mem (i := 2) rfl) (ss.mem (i := 3) rfl)), trivial⟩ ?_)
  refine A.tn ?_
  refine A.seq ?_
  refine A.region (A.goA [.p, .cq (.tuple #[(i_ (((firstL (imin 10 9223372036854775807) zt5.toL).getD default).ki)), (b_ ((firstL (imin 10 9223372036854775807) zt5.toL).isSome))]), .p, .p, .p, .p, .p] [(0, (b_ false)), (1, (p_ be1)), (2, (i_ 0)), (3, (i_ 0)), (4, (i_ (((firstL (imin 9 9223372036854775807) zt5.toL).getD default).ki))), (5, (b_ ((firstL (imin 9 9223372036854775807) zt5.toL).isSome))), (6, (i_ (((firstL (imin 10 9223372036854775807) zt5.toL).getD default).ki))), (7, (b_ ((firstL (imin 10 9223372036854775807) zt5.toL).isSome)))] [] (fun κ => κ.call 27 [(p_ be1), (u_ 10)] (.tuple #[(i_ (((firstL (imin 10 9223372036854775807) zt5.toL).getD default).ki)), (b_ ((firstL (imin 10 9223372036854775807) zt5.toL).isSome))]) ∧ True) (by kernel_rfl) ⟨(fun ww ss => vt_pick be1 bt2 mb3 zt5 (mput (mput ([] : List (Int × It)) 1 ⟨7, 1, 0, 1⟩) 2 ⟨3, 2, 10, 2⟩) 10 (by first | assumption | exact erel_nil | (show _ ≤ _; decide) | omega) ww (ss.mem (i := 0) rfl) (ss.mem (i := 1) rfl) (ss.mem (i := 2) rfl) (ss.mem (i := 3) rfl)), trivial⟩ ?_)
  refine A.tn ?_
  refine A.seq ?_
  refine A.region (A.goA [.p, .cq (.tuple #[(u_ ((zt5.toL.head?.getD default).ka)), (b_ (zt5.toL.head?.isSome))]), .p, .p, .p, .p, .p] [(0, (b_ false)), (1, (p_ be1)), (2, (i_ 0)), (3, (i_ 0)), (4, (i_ (((firstL (imin 9 9223372036854775807) zt5.toL).getD default).ki))), (5, (b_ ((firstL (imin 9 9223372036854775807) zt5.toL).isSome))), (6, (i_ (((firstL (imin 10 9223372036854775807) zt5.toL).getD default).ki))), (7, (b_ ((firstL (imin 10 9223372036854775807) zt5.toL).isSome))), (8, (u_ ((zt5.toL.head?.getD default).ka))), (9, (b_ (zt5.toL.head?.isSome)))] [] (fun κ => κ.call 31 [(p_ be1)] (.tuple #[(u_ ((zt5.toL.head?.getD default).ka)), (b_ (zt5.toL.head?.isSome))]) ∧ True) (by kernel_rfl) ⟨(fun ww ss => vt_low be1 bt2 mb3 zt5 (mput (mput ([] : List (Int × It)) 1 ⟨7, 1, 0, 1⟩) 2 ⟨3, 2, 10, 2⟩) (by first | assumption | exact erel_nil | (show _ ≤ _; decide) | omega) ww (ss.mem (i := 0) rfl) (ss.mem (i := 1) rfl) (ss.mem (i := 2) rfl) (ss.mem (i := 3) rfl)), trivial⟩ ?_)
  refine A.tn ?_
  refine A.seq ?_
  refine A.region (A.goA [.p, .p, .p, .p, .p, .p, .p, .p, .p, .p, .o, .p, .cl, .p, .o, .p, .cl, .p, .o, .p, .p, .cl, .p, .o, .p, .p, .cl, .p, .o, .p, .p, .cl, .p, .o, .p, .cq (u_ (fitV zt5.toL)), .p, .cl, .p, .o, .p, .cq (i_ ((mput (mput ([] : List (Int × It)) 1 ⟨7, 1, 0, 1⟩) 2 ⟨3, 2, 10, 2⟩).length : Int)), .p, .cl, .p] [(0, (b_ (((((((((firstL (imin 9 9223372036854775807) zt5.toL).isSome) && ((firstL (imin 10 9223372036854775807) zt5.toL).isSome)) && (zt5.toL.head?.isSome)) && ((((firstL (imin 9 9223372036854775807) zt5.toL).getD default).ki) == 1)) && ((((firstL (imin 10 9223372036854775807) zt5.toL).getD default).ki) == 2)) && (((zt5.toL.head?.getD default).ka) == 3)) && ((fitV zt5.toL) == 0)) && (((mput (mput ([] : List (Int × It)) 1 ⟨7, 1, 0, 1⟩) 2 ⟨3, 2, 10, 2⟩).length : Int) == 2)))), (1, (p_ be1)), (2, (i_ 0)), (3, (i_ 0)), (4, (i_ (((firstL (imin 9 9223372036854775807) zt5.toL).getD default).ki))), (5, (b_ ((firstL (imin 9 9223372036854775807) zt5.toL).isSome))), (6, (i_ (((firstL (imin 10 9223372036854775807) zt5.toL).getD default).ki))), (7, (b_ ((firstL (imin 10 9223372036854775807) zt5.toL).isSome))), (8, (u_ ((zt5.toL.head?.getD default).ka))), (9, (b_ (zt5.toL.head?.isSome)))] [] (fun κ => ((true && ((((((((firstL (imin 9 9223372036854775807) zt5.toL).isSome) && ((firstL (imin 10 9223372036854775807) zt5.toL).isSome)) && (zt5.toL.head?.isSome)) && ((((firstL (imin 9 9223372036854775807) zt5.toL).getD default).ki) == 1)) && ((((firstL (imin 10 9223372036854775807) zt5.toL).getD default).ki) == 2)) && (((zt5.toL.head?.getD default).ka) == 3)) == true)) = true → κ.call 29 [(p_ be1)] (u_ (fitV zt5.toL))) ∧ ((true && (((((((((firstL (imin 9 9223372036854775807) zt5.toL).isSome) && ((firstL (imin 10 9223372036854775807) zt5.toL).isSome)) && (zt5.toL.head?.isSome)) && ((((firstL (imin 9 9223372036854775807) zt5.toL).getD default).ki) == 1)) && ((((firstL (imin 10 9223372036854775807) zt5.toL).getD default).ki) == 2)) && (((zt5.toL.head?.getD default).ka) == 3)) && ((fitV zt5.toL) == 0)) == true)) = true → κ.call 32 [(p_ be1)] (i_ ((mput (mput ([] : List (Int × It)) 1 ⟨7, 1, 0, 1⟩) 2 ⟨3, 2, 10, 2⟩).length : Int))) ∧ True) (by kernel_rfl) ⟨(fun h_ => (fun ww ss => vt_fit be1 bt2 mb3 zt5 (mput (mput ([] : List (Int × It)) 1 ⟨7, 1, 0, 1⟩) 2 ⟨3, 2, 10, 2⟩) (by first | assumption | exact erel_nil | (show _ ≤ _; decide) | omega) ww (ss.mem (i := 0) rfl) (ss.mem (i := 1) rfl) (ss.mem (i := 2) rfl) (ss.mem (i := 3) rfl))), (fun h_ => (fun ww ss => vt_len be1 bt2 mb3 zt5 (mput (mput ([] : List (Int × It)) 1 ⟨7, 1, 0, 1⟩) 2 ⟨3, 2, 10, 2⟩) ww (ss.mem (i := 0) rfl) (ss.mem (i := 1) rfl) (ss.mem (i := 2) rfl) (ss.mem (i := 3) rfl))), trivial⟩ ?_)
  refine A.tn ?_
  refine A.ret ?_
  refine A.postQ [(b_ (((((((((firstL (imin 9 9223372036854775807) zt5.toL).isSome) && ((firstL (imin 10 9223372036854775807) zt5.toL).isSome)) && (zt5.toL.head?.isSome)) && ((((firstL (imin 9 9223372036854775807) zt5.toL).getD default).ki) == 1)) && ((((firstL (imin 10 9223372036854775807) zt5.toL).getD default).ki) == 2)) && (((zt5.toL.head?.getD default).ka) == 3)) && ((fitV zt5.toL) == 0)) && (((mput (mput ([] : List (Int × It)) 1 ⟨7, 1, 0, 1⟩) 2 ⟨3, 2, 10, 2⟩).length : Int) == 2)))] (fun aa ww rr ss => ⟨rv_tmp rr rfl, trivial⟩) ?_
  show ((b_ (((((((((firstL (imin 9 9223372036854775807) zt5.toL).isSome) && ((firstL (imin 10 9223372036854775807) zt5.toL).isSome)) && (zt5.toL.head?.isSome)) && ((((firstL (imin 9 9223372036854775807) zt5.toL).getD default).ki) == 1)) && ((((firstL (imin 10 9223372036854775807) zt5.toL).getD default).ki) == 2)) && (((zt5.toL.head?.getD default).ka) == 3)) && ((fitV zt5.toL) == 0)) && (((mput (mput ([] : List (Int × It)) 1 ⟨7, 1, 0, 1⟩) 2 ⟨3, 2, 10, 2⟩).length : Int) == 2))) : Value) = (b_ true)
  rw [erel_list (by assumption : ERel zt5 _)]; exact congrArg Value.bool (by decide)

set_option maxHeartbeats 4000000 in
set_option maxRecDepth 100000 in
theorem eltreeNil_walk (x : EA) (w : World) :
    Calls Try.prog 5 #[(.agg #[(i_ x.ek), (i_ x.ei), (u_ x.ea), (u_ x.eb), (u_ x.en)])] w fun e w' => e = .returned (b_ true) ∧ Fr [] w w' := by
  refine calls_of (args := [(.agg #[(i_ x.ek), (i_ x.ei), (u_ x.ea), (u_ x.eb), (u_ x.en)])]) (penv [(.agg #[(i_ x.ek), (i_ x.ei), (u_ x.ea), (u_ x.eb), (u_ x.en)])]) [] [] Try.func5 rfl rfl (look_penv _) (HS.nil w) ?_
  refine A.norm [(0, (.agg #[(i_ x.ek), (i_ x.ei), (u_ x.ea), (u_ x.eb), (u_ x.en)]))] [] (by exact ⟨rfl, trivial⟩) rfl ?_
  refine A.seq ?_
  refine A.region (A.goA1 [.al, .p] [0, 1, 2] (fun b1 => [(0, (.agg #[(i_ x.ek), (i_ x.ei), (u_ x.ea), (u_ x.eb), (u_ x.en)])), (1, (p_ b1)), (2, (b_ false))]) (fun b1 => [blk b1 [(i_ x.ek), (i_ x.ei), (u_ x.ea), (u_ x.eb), (u_ x.en)] 29]) (fun b1 => []) (fun _ => T0) (fun _ => by kernel_rfl) (fun b1 => trivial) ?_)
  intro b1
  refine A.tn ?_
  refine A.seq ?_
  refine A.region (A.goA [.p] [(0, (.agg #[(i_ x.ek), (i_ x.ei), (u_ x.ea), (u_ x.eb), (u_ x.en)])), (1, (p_ b1)), (2, (b_ false)), (3, n_)] [] T0 (by kernel_rfl) trivial ?_)
  refine A.tn ?_
  refine A.seq ?_
  refine A.region (A.goA [.p, .p, .ld 0, .cq (.tuple #[(u_ 0), (u_ 0), (i_ 7)]), .p, .p, .p, .p, .p, .p, .p] [(0, (.agg #[(i_ x.ek), (i_ x.ei), (u_ x.ea), (u_ x.eb), (u_ x.en)])), (1, (p_ b1)), (2, (b_ false)), (3, n_), (4, (u_ 0)), (5, (u_ 0)), (6, (i_ 7))] [b1] (fun κ => κ.call 16 [n_, (i_ x.ei)] (.tuple #[(u_ 0), (u_ 0), (i_ 7)]) ∧ True) (by kernel_rfl) ⟨(fun ww ss => el_get_nil x.ei ww), trivial⟩ ?_)
  refine A.tn ?_
  refine A.seq ?_
  refine A.region (A.goA [.p, .p, .ld 0, .cq (.tuple #[(i_ 0), (b_ false)]), .p, .p, .p, .p, .p] [(0, (.agg #[(i_ x.ek), (i_ x.ei), (u_ x.ea), (u_ x.eb), (u_ x.en)])), (1, (p_ b1)), (2, (b_ false)), (3, n_), (4, (u_ 0)), (5, (u_ 0)), (6, (i_ 7)), (7, (i_ 0)), (8, (b_ false))] [b1] (fun κ => κ.call 18 [n_, (u_ x.en)] (.tuple #[(i_ 0), (b_ false)]) ∧ True) (by kernel_rfl) ⟨(fun ww ss => el_pick_nil x.en ww), trivial⟩ ?_)
  refine A.tn ?_
  refine A.seq ?_
  refine A.region (A.goA [.p, .p, .p, .p, .p, .p, .p, .p, .p, .p, .p, .p, .p, .p, .p, .p, .p, .p, .p, .p, .p, .ld 0, .p, .ld 0, .p, .ld 0, .cq (i_ 7), .p, .p, .p, .p, .p, .ld 0, .cq (i_ 7), .p, .p, .p, .p, .cq (u_ 9223372036854775808), .p, .p, .p, .p, .cq (i_ 0), .p, .p, .p, .p, .cq e_, .p, .p, .p, .p, .cq (b_ true), .p, .p] [(0, (.agg #[(i_ x.ek), (i_ x.ei), (u_ x.ea), (u_ x.eb), (u_ x.en)])), (1, (p_ b1)), (2, (b_ true)), (3, n_), (4, (u_ 0)), (5, (u_ 0)), (6, (i_ 7)), (7, (i_ 0)), (8, (b_ false))] [b1, b1, b1, b1] (fun κ => κ.call 14 [n_, (i_ x.ei), (u_ x.ea), (u_ x.eb)] (i_ 7) ∧ κ.call 12 [n_, (i_ x.ei)] (i_ 7) ∧ κ.call 20 [n_] (u_ 9223372036854775808) ∧ κ.call 21 [n_] (i_ 0) ∧ κ.call 19 [n_] e_ ∧ κ.call 9 [] (b_ true) ∧ True) (by kernel_rfl) ⟨(fun ww ss => el_set_nil x.ei x.ea x.eb ww), (fun ww ss => el_drop_nil x.ei ww), (fun ww ss => el_next_nil ww), (fun ww ss => el_len_nil ww), (fun ww ss => el_ids_nil ww), (fun ww ss => el_two ww), trivial⟩ ?_)
  refine A.tn ?_
  refine A.ret ?_
  refine A.postQ [(b_ true)] (fun aa ww rr ss => ⟨rv_tmp rr rfl, trivial⟩) ?_
  rfl

set_option maxHeartbeats 4000000 in
set_option maxRecDepth 100000 in
theorem vtreeNil_walk (x : VA) (w : World) :
    Calls Try.prog 8 #[(.agg #[(i_ x.wk), (i_ x.wi), (u_ x.wa), (u_ x.wb), (u_ x.wn)])] w fun e w' => e = .returned (b_ true) ∧ Fr [] w w' := by
  refine calls_of (args := [(.agg #[(i_ x.wk), (i_ x.wi), (u_ x.wa), (u_ x.wb), (u_ x.wn)])]) (penv [(.agg #[(i_ x.wk), (i_ x.wi), (u_ x.wa), (u_ x.wb), (u_ x.wn)])]) [] [] Try.func8 rfl rfl (look_penv _) (HS.nil w) ?_
  refine A.norm [(0, (.agg #[(i_ x.wk), (i_ x.wi), (u_ x.wa), (u_ x.wb), (u_ x.wn)]))] [] (by exact ⟨rfl, trivial⟩) rfl ?_
  refine A.seq ?_
  refine A.region (A.goA1 [.al, .p] [0, 1, 2] (fun b1 => [(0, (.agg #[(i_ x.wk), (i_ x.wi), (u_ x.wa), (u_ x.wb), (u_ x.wn)])), (1, (p_ b1)), (2, (b_ false))]) (fun b1 => [blk b1 [(i_ x.wk), (i_ x.wi), (u_ x.wa), (u_ x.wb), (u_ x.wn)] 53]) (fun b1 => []) (fun _ => T0) (fun _ => by kernel_rfl) (fun b1 => trivial) ?_)
  intro b1
  refine A.tn ?_
  refine A.seq ?_
  refine A.region (A.goA [.p] [(0, (.agg #[(i_ x.wk), (i_ x.wi), (u_ x.wa), (u_ x.wb), (u_ x.wn)])), (1, (p_ b1)), (2, (b_ false)), (3, n_)] [] T0 (by kernel_rfl) trivial ?_)
  refine A.tn ?_
  refine A.seq ?_
  refine A.region (A.goA [.p, .p, .ld 0, .cq (.tuple #[(u_ 0), (u_ 0), (i_ 7)]), .p, .p, .p, .p, .p, .p, .p] [(0, (.agg #[(i_ x.wk), (i_ x.wi), (u_ x.wa), (u_ x.wb), (u_ x.wn)])), (1, (p_ b1)), (2, (b_ false)), (3, n_), (4, (u_ 0)), (5, (u_ 0)), (6, (i_ 7))] [b1] (fun κ => κ.call 28 [n_, (i_ x.wi)] (.tuple #[(u_ 0), (u_ 0), (i_ 7)]) ∧ True) (by kernel_rfl) ⟨(fun ww ss => vt_get_nil x.wi ww), trivial⟩ ?_)
  refine A.tn ?_
  refine A.seq ?_
  refine A.region (A.goA [.p, .p, .ld 0, .cq (.tuple #[(i_ 0), (b_ false)]), .p, .p, .p, .p, .p] [(0, (.agg #[(i_ x.wk), (i_ x.wi), (u_ x.wa), (u_ x.wb), (u_ x.wn)])), (1, (p_ b1)), (2, (b_ false)), (3, n_), (4, (u_ 0)), (5, (u_ 0)), (6, (i_ 7)), (7, (i_ 0)), (8, (b_ false))] [b1] (fun κ => κ.call 27 [n_, (u_ x.wn)] (.tuple #[(i_ 0), (b_ false)]) ∧ True) (by kernel_rfl) ⟨(fun ww ss => vt_pick_nil x.wn ww), trivial⟩ ?_)
  refine A.tn ?_
  refine A.seq ?_
  refine A.region (A.goA [.p, .cq (.tuple #[(u_ 0), (b_ false)]), .p, .p, .p, .p, .p] [(0, (.agg #[(i_ x.wk), (i_ x.wi), (u_ x.wa), (u_ x.wb), (u_ x.wn)])), (1, (p_ b1)), (2, (b_ false)), (3, n_), (4, (u_ 0)), (5, (u_ 0)), (6, (i_ 7)), (7, (i_ 0)), (8, (b_ false)), (9, (u_ 0)), (10, (b_ false))] [] (fun κ => κ.call 31 [n_] (.tuple #[(u_ 0), (b_ false)]) ∧ True) (by kernel_rfl) ⟨(fun ww ss => vt_low_nil ww), trivial⟩ ?_)
  refine A.tn ?_
  refine A.seq ?_
  refine A.region (A.goA [.p, .p, .p, .p, .p, .p, .p, .p, .p, .p, .p, .p, .p, .p, .p, .p, .p, .p, .p, .p, .p, .p, .p, .p, .p, .p, .p, .p, .p, .ld 0, .p, .ld 0, .p, .ld 0, .cq (i_ 7), .p, .p, .p, .p, .p, .ld 0, .cq (i_ 7), .p, .p, .p, .p, .cq (u_ 9223372036854775808), .p, .p, .p, .p, .cq (i_ 0), .p, .p, .p, .p, .cq e_, .p, .p, .p, .p, .cq (b_ true), .p, .p] [(0, (.agg #[(i_ x.wk), (i_ x.wi), (u_ x.wa), (u_ x.wb), (u_ x.wn)])), (1, (p_ b1)), (2, (b_ true)), (3, n_), (4, (u_ 0)), (5, (u_ 0)), (6, (i_ 7)), (7, (i_ 0)), (8, (b_ false)), (9, (u_ 0)), (10, (b_ false))] [b1, b1, b1, b1] (fun κ => κ.call 25 [n_, (i_ x.wi), (u_ x.wa), (u_ x.wb)] (i_ 7) ∧ κ.call 24 [n_, (i_ x.wi)] (i_ 7) ∧ κ.call 29 [n_] (u_ 9223372036854775808) ∧ κ.call 32 [n_] (i_ 0) ∧ κ.call 30 [n_] e_ ∧ κ.call 22 [] (b_ true) ∧ True) (by kernel_rfl) ⟨(fun ww ss => vt_set_nil x.wi x.wa x.wb ww), (fun ww ss => vt_drop_nil x.wi ww), (fun ww ss => vt_fit_nil ww), (fun ww ss => vt_len_nil ww), (fun ww ss => vt_ids_nil ww), (fun ww ss => vt_two ww), trivial⟩ ?_)
  refine A.tn ?_
  refine A.ret ?_
  refine A.postQ [(b_ true)] (fun aa ww rr ss => ⟨rv_tmp rr rfl, trivial⟩) ?_
  rfl
end Go.Proofs.Ytdhcglflmkjneaa
