/- What the functions of this layer do, proved operation by operation, for all arguments, under the conditions that each theorem states. -/
import Derived.Test.YtlhchmmjkokamaaProg
import Derived.Test.YtlhchmmjkokamaaVs
namespace Go.Proofs.Ytlhchmmjkokamaa
open Go V
set_option linter.unusedVariables false
set_option linter.unusedSimpArgs false
def encU (x : Int) : List Value := [(u_ x)]
theorem encU_len (x : Int) : (encU x).length = 1 := rfl
theorem encU_one (x : Int) : (encU x).all Value.oneCell' = true := rfl
def encI (x : Int) : List Value := [(i_ x)]
theorem encI_len (x : Int) : (encI x).length = 1 := rfl
theorem encI_one (x : Int) : (encI x).all Value.oneCell' = true := rfl
structure SR where
  sp : Int
  sb : Int
  sr : Int
  sw : Int
  sg : Int
  deriving Inhabited, DecidableEq
def encSR (x : SR) : List Value := [(u_ x.sp), (u_ x.sb), (u_ x.sr), (u_ x.sw), (u_ x.sg)]
theorem encSR_len (x : SR) : (encSR x).length = 5 := rfl
theorem encSR_one (x : SR) : (encSR x).all Value.oneCell' = true := rfl
def CamP (cv : List (Int × SL)) (ci a : Int) (zc : List (Int × SL)) : Prop := ∃ A c, zc = mput cv ci ⟨A, c, ((mget cv ci).getD sl0).sx ++ [a]⟩
def sr0 : SR := ⟨0, 0, 0, 0, 0⟩
theorem keyOk_I : KeyOk Try.prog 3 (fun k : Int => i_ k) := keyOk_int (by kernel_rfl)

set_option maxHeartbeats 4000000 in
set_option maxRecDepth 100000 in
theorem st_new (w : World) (hs : HS w (feet []) [] w) :
    Calls Try.prog 7 #[] w fun e w' => ∃ zz, e = .returned ((fun (zz : Nat × Nat × Nat) => match zz with | (bs, mc, mr) => (p_ bs)) zz) ∧ (fun (zz : Nat × Nat × Nat) => match zz with | (bs, mc, mr) => True) zz ∧ Turn [] ((fun (zz : Nat × Nat × Nat) => match zz with | (bs, mc, mr) => [blk bs [(.map (some mc)), (.map (some mr))] 58, mapI (fun k : Int => i_ k) slV mc ([] : List (Int × SL)), bagI 27 encU ([] : List (Int × SL)), mapI (fun k : Int => i_ k) (fun y : SR => (.agg #[u_ y.sp, u_ y.sb, u_ y.sr, u_ y.sw, u_ y.sg])) mr ([] : List (Int × SR))]) zz) w w' := by
  refine calls_of (args := []) (penv []) (feet []) [] Try.func7 rfl rfl (look_penv _) hs ?_
  refine A.norm [] [] trivial rfl ?_
  refine A.seq ?_
  refine A.bagNil 27 encU [bagI 27 encU ([] : List (Int × SL))] rfl ?_
  refine A.region (A.goA [.p] [(0, n_)] [] T0 (by kernel_rfl) trivial ?_)
  refine A.tn ?_
  refine A.seq ?_
  refine A.bagNil 27 encU [bagI 27 encU ([] : List (Int × SL)), bagI 27 encU ([] : List (Int × SL))] rfl ?_
  refine A.region ?_
  refine A.cons (A.makeMap (fun k : Int => i_ k) slV 1 (by kernel_rfl) rfl (fun m1 => [bagI 27 encU ([] : List (Int × SL)), bagI 27 encU ([] : List (Int × SL)), mapI (fun k : Int => i_ k) slV m1 ([] : List (Int × SL))]) (fun _ => rfl) ?_)
  intro m1
  refine A.cons (A.makeMap (fun k : Int => i_ k) (fun y : SR => (.agg #[u_ y.sp, u_ y.sb, u_ y.sr, u_ y.sw, u_ y.sg])) 2 (by kernel_rfl) rfl (fun m2 => [bagI 27 encU ([] : List (Int × SL)), bagI 27 encU ([] : List (Int × SL)), mapI (fun k : Int => i_ k) slV m1 ([] : List (Int × SL)), mapI (fun k : Int => i_ k) (fun y : SR => (.agg #[u_ y.sp, u_ y.sb, u_ y.sr, u_ y.sw, u_ y.sg])) m2 ([] : List (Int × SR))]) (fun _ => rfl) ?_)
  intro m2
  refine A.goA1 [.p, .al, .p] [0] (fun b3 => [(0, (p_ b3))]) (fun b3 => [bagI 27 encU ([] : List (Int × SL)), bagI 27 encU ([] : List (Int × SL)), mapI (fun k : Int => i_ k) slV m1 ([] : List (Int × SL)), mapI (fun k : Int => i_ k) (fun y : SR => (.agg #[u_ y.sp, u_ y.sb, u_ y.sr, u_ y.sw, u_ y.sg])) m2 ([] : List (Int × SR)), blk b3 [(.map (some m1)), (.map (some m2))] 58]) (fun b3 => []) (fun _ => T0) (fun _ => by kernel_rfl) (fun b3 => trivial) ?_
  intro b3
  refine A.tn ?_
  refine A.ret ?_
  refine A.postK [4, 2, 0, 1] [(p_ b3)] (fun aa ww rr ss => ⟨rv_tmp rr rfl, trivial⟩) (b3, m1, m2) ?_ ?_ (by kernel_rfl)
  · rfl
  · trivial

set_option maxHeartbeats 4000000 in
set_option maxRecDepth 100000 in
theorem st_came_nil (ci a : Int) (w : World) :
    Calls Try.prog 8 #[n_, (i_ ci), (u_ a)] w fun e w' => e = .returned (i_ 7) ∧ Fr [] w w' := by
  refine calls_of (args := [n_, (i_ ci), (u_ a)]) (penv [n_, (i_ ci), (u_ a)]) [] [] Try.func8 rfl rfl (look_penv _) (HS.nil w) ?_
  refine A.norm [(0, n_), (1, (i_ ci)), (2, (u_ a))] [] (by exact ⟨rfl, rfl, rfl, trivial⟩) rfl ?_
  refine A.seq ?_
  refine A.region (A.goA [.p] [(0, n_), (1, (i_ ci)), (2, (u_ a)), (6, (i_ 0))] [] T0 (by kernel_rfl) trivial ?_)
  refine A.tn ?_
  refine A.seq ?_
  refine A.seq ?_
  refine A.region (A.goA [.p, .p] [(0, n_), (1, (i_ ci)), (2, (u_ a)), (6, (i_ 0)), (8, (b_ true))] [] T0 (by kernel_rfl) trivial ?_)
  refine A.tn ?_
  refine A.cond_t rfl ?_
  refine A.seq ?_
  refine A.region (A.goA [.p] [(0, n_), (1, (i_ ci)), (2, (u_ a)), (6, (i_ 7)), (8, (b_ true))] [] T0 (by kernel_rfl) trivial ?_)
  refine A.tn ?_
  refine A.ret ?_
  refine A.tr ?_
  refine A.postQ [(i_ 7)] (fun aa ww rr ss => ⟨rv_tmp rr rfl, trivial⟩) ?_
  rfl

set_option maxHeartbeats 4000000 in
set_option maxRecDepth 100000 in
theorem st_came (bs mc mr : Nat) (cv : List (Int × SL)) (rv : List (Int × SR)) (ci a : Int) (hl : ((mget cv ci).getD sl0).sx.length ≤ 100000) (w : World) (hs : HS w (feet [blk bs [(.map (some mc)), (.map (some mr))] 58, mapI (fun k : Int => i_ k) slV mc cv, bagI 27 encU cv, mapI (fun k : Int => i_ k) (fun y : SR => (.agg #[u_ y.sp, u_ y.sb, u_ y.sr, u_ y.sw, u_ y.sg])) mr rv]) [blk bs [(.map (some mc)), (.map (some mr))] 58, mapI (fun k : Int => i_ k) slV mc cv, bagI 27 encU cv, mapI (fun k : Int => i_ k) (fun y : SR => (.agg #[u_ y.sp, u_ y.sb, u_ y.sr, u_ y.sw, u_ y.sg])) mr rv] w) :
    Calls Try.prog 8 #[(p_ bs), (i_ ci), (u_ a)] w fun e w' => ∃ zz, e = .returned ((fun (zc : (List (Int × SL))) => (i_ 0)) zz) ∧ (fun (zc : (List (Int × SL))) => CamP cv ci a zc) zz ∧ Turn [blk bs [(.map (some mc)), (.map (some mr))] 58, mapI (fun k : Int => i_ k) slV mc cv, bagI 27 encU cv, mapI (fun k : Int => i_ k) (fun y : SR => (.agg #[u_ y.sp, u_ y.sb, u_ y.sr, u_ y.sw, u_ y.sg])) mr rv] ((fun (zc : (List (Int × SL))) => [blk bs [(.map (some mc)), (.map (some mr))] 58, mapI (fun k : Int => i_ k) slV mc zc, bagI 27 encU zc, mapI (fun k : Int => i_ k) (fun y : SR => (.agg #[u_ y.sp, u_ y.sb, u_ y.sr, u_ y.sw, u_ y.sg])) mr rv]) zz) w w' := by
  refine calls_of (args := [(p_ bs), (i_ ci), (u_ a)]) (penv [(p_ bs), (i_ ci), (u_ a)]) (feet [blk bs [(.map (some mc)), (.map (some mr))] 58, mapI (fun k : Int => i_ k) slV mc cv, bagI 27 encU cv, mapI (fun k : Int => i_ k) (fun y : SR => (.agg #[u_ y.sp, u_ y.sb, u_ y.sr, u_ y.sw, u_ y.sg])) mr rv]) [blk bs [(.map (some mc)), (.map (some mr))] 58, mapI (fun k : Int => i_ k) slV mc cv, bagI 27 encU cv, mapI (fun k : Int => i_ k) (fun y : SR => (.agg #[u_ y.sp, u_ y.sb, u_ y.sr, u_ y.sw, u_ y.sg])) mr rv] Try.func8 rfl rfl (look_penv _) hs ?_
  refine A.norm [(0, (p_ bs)), (1, (i_ ci)), (2, (u_ a))] [blk bs [(.map (some mc)), (.map (some mr))] 58, mapI (fun k : Int => i_ k) slV mc cv, bagI 27 encU cv, mapI (fun k : Int => i_ k) (fun y : SR => (.agg #[u_ y.sp, u_ y.sb, u_ y.sr, u_ y.sw, u_ y.sg])) mr rv] (by exact ⟨rfl, rfl, rfl, trivial⟩) rfl ?_
  refine A.seq ?_
  refine A.region (A.goA [.p] [(0, (p_ bs)), (1, (i_ ci)), (2, (u_ a)), (6, (i_ 0))] [] T0 (by kernel_rfl) trivial ?_)
  refine A.tn ?_
  refine A.seq ?_
  refine A.seq ?_
  refine A.region (A.goA [.p, .p] [(0, (p_ bs)), (1, (i_ ci)), (2, (u_ a)), (6, (i_ 0)), (8, (b_ false))] [] T0 (by kernel_rfl) trivial ?_)
  refine A.tn ?_
  refine A.cond_f rfl ?_
  refine A.skip ?_
  refine A.tn ?_
  refine A.seq ?_
  refine A.cutR (fun (zz_ : Option Addr × Nat) => match zz_ with | (A2, c2) => [(0, (p_ bs)), (1, (i_ ci)), (2, (u_ a)), (6, (i_ 0)), (8, (b_ false))]) (fun (zz_ : Option Addr × Nat) => match zz_ with | (A2, c2) => [bagI 27 encU (mput cv ci ⟨A2, c2, (((mget cv ci).getD sl0).sx) ++ ([a])⟩), blk bs [(.map (some mc)), (.map (some mr))] 58, mapI (fun k : Int => i_ k) slV mc (mput cv ci ⟨A2, c2, (((mget cv ci).getD sl0).sx) ++ ([a])⟩), mapI (fun k : Int => i_ k) (fun y : SR => (.agg #[u_ y.sp, u_ y.sb, u_ y.sr, u_ y.sw, u_ y.sg])) mr rv]) (fun _ => True) ?_ (fun zz_ _ => ?_)
  · skip
    refine A.draw2 [12, 13, 14] 15 (by kernel_rfl) ?_
    refine A.drawP 6 [.p, .p, .p, .p, .p, .p, .p, .p, .p] [0, 1, 2, 4, 5, 6, 7, 9, 11] [(0, (p_ bs)), (1, (i_ ci)), (2, (u_ a)), (6, (i_ 0)), (8, (b_ false)), (11, (p_ bs)), (13, (i_ ci)), (16, (p_ bs)), (18, (i_ ci)), (20, (u_ a))] [] T0 (by kernel_rfl) trivial ?_
    refine A.fork3 3 8 12 rfl rfl rfl (by kernel_rfl) ?_ ?_ ?_
    · skip
      refine A.q (some 12) (.map (some mc)) (by kernel_rfl) (qt_load1 rfl rfl (by kernel_rfl) (reads_blk (i := 0) rfl rfl)) ?_
      refine A.and (List.Sublist.refl _) ?_
      refine A.fork2 8 12 rfl rfl (by kernel_rfl) ?_ ?_
      · skip
        refine A.q (some 17) (.map (some mc)) (by kernel_rfl) (qt_load1 rfl rfl (by kernel_rfl) (reads_blk (i := 0) rfl rfl)) ?_
        refine A.and (List.Sublist.refl _) ?_
        refine A.fork2 10 12 rfl rfl (by kernel_rfl) ?_ ?_
        · skip
          refine A.q (some 19) (.slice (((mget cv ci).getD sl0).sa) (((mget cv ci).getD sl0).sx.length) (((mget cv ci).getD sl0).sc)) (by kernel_rfl) (qt_lookup (kt := 3) (et := 52) (enck := (fun k : Int => i_ k)) (encv := slV) (b := mc) (kv := cv) (k := ci) (d0 := sl0) (fun ww ss => ss.mem (i := 1) rfl) rfl rfl rfl (by kernel_rfl) keyOk_I (by kernel_rfl) rfl) ?_
          refine A.and (List.Sublist.refl _) ?_
          refine A.only2 12 rfl (by kernel_rfl) (A.buildSlice 21 (e := 27) [(u_ a)] (by kernel_rfl) rfl (fun _ => by kernel_rfl) (fun b1 => [blk bs [(.map (some mc)), (.map (some mr))] 58, mapI (fun k : Int => i_ k) slV mc cv, bagI 27 encU cv, mapI (fun k : Int => i_ k) (fun y : SR => (.agg #[u_ y.sp, u_ y.sb, u_ y.sr, u_ y.sw, u_ y.sg])) mr rv, blk b1 [(u_ a)] 27]) (fun _ => rfl) ?_)
          intro b1
          refine A.stage ?_
          refine A.only2 13 rfl (by kernel_rfl) (A.reshape [2] (fun _ : Unit => True) (fun _ => [bagI 27 encU (mdel cv ci), sl (((mget cv ci).getD sl0).sa) ((((mget cv ci).getD sl0).sx).length) (((mget cv ci).getD sl0).sc) 27 1 (V.flat encU (((mget cv ci).getD sl0).sx))]) (fun _ => [bagI 27 encU (mdel cv ci), sl (((mget cv ci).getD sl0).sa) ((((mget cv ci).getD sl0).sx).length) (((mget cv ci).getD sl0).sc) 27 1 (V.flat encU (((mget cv ci).getD sl0).sx)), blk bs [(.map (some mc)), (.map (some mr))] 58, mapI (fun k : Int => i_ k) slV mc cv, mapI (fun k : Int => i_ k) (fun y : SR => (.agg #[u_ y.sp, u_ y.sb, u_ y.sr, u_ y.sw, u_ y.sg])) mr rv, blk b1 [(u_ a)] 27]) rfl (fun w hs => bag_open cv ci hs) (fun _ => rfl) (fun _ _ => A.appendC (enc := encU) (xs := ((mget cv ci).getD sl0).sx) ([a]) 1 22 (e := 27) (z := (u_ 0)) (sz := 1) (by_ := 8) (by kernel_rfl) rfl rfl rfl (by kernel_rfl) (by kernel_rfl) (by rfl) (by decide) encU_len encU_one rfl (rd_blk (i := 5) rfl) (by simp; omega) (fun A2 c2 => [bagI 27 encU (mdel cv ci), sl A2 (((((mget cv ci).getD sl0).sx) ++ ([a])).length) c2 27 1 (V.flat encU ((((mget cv ci).getD sl0).sx) ++ ([a]))), blk bs [(.map (some mc)), (.map (some mr))] 58, mapI (fun k : Int => i_ k) slV mc cv, mapI (fun k : Int => i_ k) (fun y : SR => (.agg #[u_ y.sp, u_ y.sb, u_ y.sr, u_ y.sw, u_ y.sg])) mr rv, blk b1 [(u_ a)] 27]) (fun _ _ => rfl) ?_))
          intro A2 c2
          refine A.stage ?_
          refine A.only2 14 rfl (by kernel_rfl) (A.mapPut (kt := 3) (et := 52) (enck := (fun k : Int => i_ k)) (encv := slV) (kv := cv) (k := ci) 3 ⟨A2, c2, (((mget cv ci).getD sl0).sx) ++ ([a])⟩ [bagI 27 encU (mdel cv ci), sl A2 (((((mget cv ci).getD sl0).sx) ++ ([a])).length) c2 27 1 (V.flat encU ((((mget cv ci).getD sl0).sx) ++ ([a]))), blk bs [(.map (some mc)), (.map (some mr))] 58, mapI (fun k : Int => i_ k) slV mc (mput cv ci ⟨A2, c2, (((mget cv ci).getD sl0).sx) ++ ([a])⟩), mapI (fun k : Int => i_ k) (fun y : SR => (.agg #[u_ y.sp, u_ y.sb, u_ y.sr, u_ y.sw, u_ y.sg])) mr rv, blk b1 [(u_ a)] 27] (by kernel_rfl) rfl rfl rfl rfl (by kernel_rfl) keyOk_I rfl rfl ?_)
          refine A.reshape [0, 0] (fun _ : Unit => True) (fun _ => [bagI 27 encU (mput cv ci ⟨A2, c2, (((mget cv ci).getD sl0).sx) ++ ([a])⟩)]) (fun _ => [bagI 27 encU (mput cv ci ⟨A2, c2, (((mget cv ci).getD sl0).sx) ++ ([a])⟩), blk bs [(.map (some mc)), (.map (some mr))] 58, mapI (fun k : Int => i_ k) slV mc (mput cv ci ⟨A2, c2, (((mget cv ci).getD sl0).sx) ++ ([a])⟩), mapI (fun k : Int => i_ k) (fun y : SR => (.agg #[u_ y.sp, u_ y.sb, u_ y.sr, u_ y.sw, u_ y.sg])) mr rv, blk b1 [(u_ a)] 27]) rfl (fun w hs => bag_fold cv ci A2 c2 ((((mget cv ci).getD sl0).sx) ++ ([a])) hs) (fun _ => rfl) (fun _ _ => ?_)
          refine A.stage ?_
          refine A.fin2 (by kernel_rfl) ?_
          refine A.sub [(0, (p_ bs)), (1, (i_ ci)), (2, (u_ a)), (6, (i_ 0)), (8, (b_ false))] (by exact ⟨rfl, rfl, rfl, rfl, rfl, trivial⟩) ?_
          exact A.meet (A2, c2) trivial (A.here (by exact ⟨rfl, rfl, rfl, rfl, rfl, trivial⟩) (.cons_cons _ (.cons_cons _ (.cons_cons _ (.cons_cons _ (.cons _ (List.Sublist.slnil)))))))
        · skip
          refine A.buildSlice 21 (e := 27) [(u_ a)] (by kernel_rfl) rfl (fun _ => by kernel_rfl) (fun b3 => [blk bs [(.map (some mc)), (.map (some mr))] 58, mapI (fun k : Int => i_ k) slV mc cv, bagI 27 encU cv, mapI (fun k : Int => i_ k) (fun y : SR => (.agg #[u_ y.sp, u_ y.sb, u_ y.sr, u_ y.sw, u_ y.sg])) mr rv, blk b3 [(u_ a)] 27]) (fun _ => rfl) ?_
          intro b3
          refine A.stage ?_
          refine A.take2 10 (some 19) (.slice (((mget cv ci).getD sl0).sa) (((mget cv ci).getD sl0).sx.length) (((mget cv ci).getD sl0).sc)) rfl (by kernel_rfl) (by kernel_rfl) (qt_lookup (kt := 3) (et := 52) (enck := (fun k : Int => i_ k)) (encv := slV) (b := mc) (kv := cv) (k := ci) (d0 := sl0) (fun ww ss => ss.mem (i := 1) rfl) rfl rfl rfl (by kernel_rfl) keyOk_I (by kernel_rfl) rfl) ?_
          refine A.only2 13 rfl (by kernel_rfl) (A.reshape [2] (fun _ : Unit => True) (fun _ => [bagI 27 encU (mdel cv ci), sl (((mget cv ci).getD sl0).sa) ((((mget cv ci).getD sl0).sx).length) (((mget cv ci).getD sl0).sc) 27 1 (V.flat encU (((mget cv ci).getD sl0).sx))]) (fun _ => [bagI 27 encU (mdel cv ci), sl (((mget cv ci).getD sl0).sa) ((((mget cv ci).getD sl0).sx).length) (((mget cv ci).getD sl0).sc) 27 1 (V.flat encU (((mget cv ci).getD sl0).sx)), blk bs [(.map (some mc)), (.map (some mr))] 58, mapI (fun k : Int => i_ k) slV mc cv, mapI (fun k : Int => i_ k) (fun y : SR => (.agg #[u_ y.sp, u_ y.sb, u_ y.sr, u_ y.sw, u_ y.sg])) mr rv, blk b3 [(u_ a)] 27]) rfl (fun w hs => bag_open cv ci hs) (fun _ => rfl) (fun _ _ => A.appendC (enc := encU) (xs := ((mget cv ci).getD sl0).sx) ([a]) 1 22 (e := 27) (z := (u_ 0)) (sz := 1) (by_ := 8) (by kernel_rfl) rfl rfl rfl (by kernel_rfl) (by kernel_rfl) (by rfl) (by decide) encU_len encU_one rfl (rd_blk (i := 5) rfl) (by simp; omega) (fun A4 c4 => [bagI 27 encU (mdel cv ci), sl A4 (((((mget cv ci).getD sl0).sx) ++ ([a])).length) c4 27 1 (V.flat encU ((((mget cv ci).getD sl0).sx) ++ ([a]))), blk bs [(.map (some mc)), (.map (some mr))] 58, mapI (fun k : Int => i_ k) slV mc cv, mapI (fun k : Int => i_ k) (fun y : SR => (.agg #[u_ y.sp, u_ y.sb, u_ y.sr, u_ y.sw, u_ y.sg])) mr rv, blk b3 [(u_ a)] 27]) (fun _ _ => rfl) ?_))
          intro A4 c4
          refine A.stage ?_
          refine A.only2 14 rfl (by kernel_rfl) (A.mapPut (kt := 3) (et := 52) (enck := (fun k : Int => i_ k)) (encv := slV) (kv := cv) (k := ci) 3 ⟨A4, c4, (((mget cv ci).getD sl0).sx) ++ ([a])⟩ [bagI 27 encU (mdel cv ci), sl A4 (((((mget cv ci).getD sl0).sx) ++ ([a])).length) c4 27 1 (V.flat encU ((((mget cv ci).getD sl0).sx) ++ ([a]))), blk bs [(.map (some mc)), (.map (some mr))] 58, mapI (fun k : Int => i_ k) slV mc (mput cv ci ⟨A4, c4, (((mget cv ci).getD sl0).sx) ++ ([a])⟩), mapI (fun k : Int => i_ k) (fun y : SR => (.agg #[u_ y.sp, u_ y.sb, u_ y.sr, u_ y.sw, u_ y.sg])) mr rv, blk b3 [(u_ a)] 27] (by kernel_rfl) rfl rfl rfl rfl (by kernel_rfl) keyOk_I rfl rfl ?_)
          refine A.reshape [0, 0] (fun _ : Unit => True) (fun _ => [bagI 27 encU (mput cv ci ⟨A4, c4, (((mget cv ci).getD sl0).sx) ++ ([a])⟩)]) (fun _ => [bagI 27 encU (mput cv ci ⟨A4, c4, (((mget cv ci).getD sl0).sx) ++ ([a])⟩), blk bs [(.map (some mc)), (.map (some mr))] 58, mapI (fun k : Int => i_ k) slV mc (mput cv ci ⟨A4, c4, (((mget cv ci).getD sl0).sx) ++ ([a])⟩), mapI (fun k : Int => i_ k) (fun y : SR => (.agg #[u_ y.sp, u_ y.sb, u_ y.sr, u_ y.sw, u_ y.sg])) mr rv, blk b3 [(u_ a)] 27]) rfl (fun w hs => bag_fold cv ci A4 c4 ((((mget cv ci).getD sl0).sx) ++ ([a])) hs) (fun _ => rfl) (fun _ _ => ?_)
          refine A.stage ?_
          refine A.fin2 (by kernel_rfl) ?_
          refine A.sub [(0, (p_ bs)), (1, (i_ ci)), (2, (u_ a)), (6, (i_ 0)), (8, (b_ false))] (by exact ⟨rfl, rfl, rfl, rfl, rfl, trivial⟩) ?_
          exact A.meet (A4, c4) trivial (A.here (by exact ⟨rfl, rfl, rfl, rfl, rfl, trivial⟩) (.cons_cons _ (.cons_cons _ (.cons_cons _ (.cons_cons _ (.cons _ (List.Sublist.slnil)))))))
      · skip
        refine A.buildSlice 21 (e := 27) [(u_ a)] (by kernel_rfl) rfl (fun _ => by kernel_rfl) (fun b5 => [blk bs [(.map (some mc)), (.map (some mr))] 58, mapI (fun k : Int => i_ k) slV mc cv, bagI 27 encU cv, mapI (fun k : Int => i_ k) (fun y : SR => (.agg #[u_ y.sp, u_ y.sb, u_ y.sr, u_ y.sw, u_ y.sg])) mr rv, blk b5 [(u_ a)] 27]) (fun _ => rfl) ?_
        intro b5
        refine A.stage ?_
        refine A.drawP 3 [.ld 0] [8] [(0, (p_ bs)), (1, (i_ ci)), (2, (u_ a)), (6, (i_ 0)), (8, (b_ false)), (13, (i_ ci)), (18, (i_ ci)), (12, (.map (some mc))), (21, (.slice (some ⟨b5, 0, none⟩) 1 1)), (17, (.map (some mc)))] [bs] T0 (by kernel_rfl) trivial ?_
        refine A.take2 10 (some 19) (.slice (((mget cv ci).getD sl0).sa) (((mget cv ci).getD sl0).sx.length) (((mget cv ci).getD sl0).sc)) rfl (by kernel_rfl) (by kernel_rfl) (qt_lookup (kt := 3) (et := 52) (enck := (fun k : Int => i_ k)) (encv := slV) (b := mc) (kv := cv) (k := ci) (d0 := sl0) (fun ww ss => ss.mem (i := 1) rfl) rfl rfl rfl (by kernel_rfl) keyOk_I (by kernel_rfl) rfl) ?_
        refine A.only2 13 rfl (by kernel_rfl) (A.reshape [2] (fun _ : Unit => True) (fun _ => [bagI 27 encU (mdel cv ci), sl (((mget cv ci).getD sl0).sa) ((((mget cv ci).getD sl0).sx).length) (((mget cv ci).getD sl0).sc) 27 1 (V.flat encU (((mget cv ci).getD sl0).sx))]) (fun _ => [bagI 27 encU (mdel cv ci), sl (((mget cv ci).getD sl0).sa) ((((mget cv ci).getD sl0).sx).length) (((mget cv ci).getD sl0).sc) 27 1 (V.flat encU (((mget cv ci).getD sl0).sx)), blk bs [(.map (some mc)), (.map (some mr))] 58, mapI (fun k : Int => i_ k) slV mc cv, mapI (fun k : Int => i_ k) (fun y : SR => (.agg #[u_ y.sp, u_ y.sb, u_ y.sr, u_ y.sw, u_ y.sg])) mr rv, blk b5 [(u_ a)] 27]) rfl (fun w hs => bag_open cv ci hs) (fun _ => rfl) (fun _ _ => A.appendC (enc := encU) (xs := ((mget cv ci).getD sl0).sx) ([a]) 1 22 (e := 27) (z := (u_ 0)) (sz := 1) (by_ := 8) (by kernel_rfl) rfl rfl rfl (by kernel_rfl) (by kernel_rfl) (by rfl) (by decide) encU_len encU_one rfl (rd_blk (i := 5) rfl) (by simp; omega) (fun A6 c6 => [bagI 27 encU (mdel cv ci), sl A6 (((((mget cv ci).getD sl0).sx) ++ ([a])).length) c6 27 1 (V.flat encU ((((mget cv ci).getD sl0).sx) ++ ([a]))), blk bs [(.map (some mc)), (.map (some mr))] 58, mapI (fun k : Int => i_ k) slV mc cv, mapI (fun k : Int => i_ k) (fun y : SR => (.agg #[u_ y.sp, u_ y.sb, u_ y.sr, u_ y.sw, u_ y.sg])) mr rv, blk b5 [(u_ a)] 27]) (fun _ _ => rfl) ?_))
        intro A6 c6
        refine A.stage ?_
        refine A.only2 14 rfl (by kernel_rfl) (A.mapPut (kt := 3) (et := 52) (enck := (fun k : Int => i_ k)) (encv := slV) (kv := cv) (k := ci) 3 ⟨A6, c6, (((mget cv ci).getD sl0).sx) ++ ([a])⟩ [bagI 27 encU (mdel cv ci), sl A6 (((((mget cv ci).getD sl0).sx) ++ ([a])).length) c6 27 1 (V.flat encU ((((mget cv ci).getD sl0).sx) ++ ([a]))), blk bs [(.map (some mc)), (.map (some mr))] 58, mapI (fun k : Int => i_ k) slV mc (mput cv ci ⟨A6, c6, (((mget cv ci).getD sl0).sx) ++ ([a])⟩), mapI (fun k : Int => i_ k) (fun y : SR => (.agg #[u_ y.sp, u_ y.sb, u_ y.sr, u_ y.sw, u_ y.sg])) mr rv, blk b5 [(u_ a)] 27] (by kernel_rfl) rfl rfl rfl rfl (by kernel_rfl) keyOk_I rfl rfl ?_)
        refine A.reshape [0, 0] (fun _ : Unit => True) (fun _ => [bagI 27 encU (mput cv ci ⟨A6, c6, (((mget cv ci).getD sl0).sx) ++ ([a])⟩)]) (fun _ => [bagI 27 encU (mput cv ci ⟨A6, c6, (((mget cv ci).getD sl0).sx) ++ ([a])⟩), blk bs [(.map (some mc)), (.map (some mr))] 58, mapI (fun k : Int => i_ k) slV mc (mput cv ci ⟨A6, c6, (((mget cv ci).getD sl0).sx) ++ ([a])⟩), mapI (fun k : Int => i_ k) (fun y : SR => (.agg #[u_ y.sp, u_ y.sb, u_ y.sr, u_ y.sw, u_ y.sg])) mr rv, blk b5 [(u_ a)] 27]) rfl (fun w hs => bag_fold cv ci A6 c6 ((((mget cv ci).getD sl0).sx) ++ ([a])) hs) (fun _ => rfl) (fun _ _ => ?_)
        refine A.stage ?_
        refine A.fin2 (by kernel_rfl) ?_
        refine A.sub [(0, (p_ bs)), (1, (i_ ci)), (2, (u_ a)), (6, (i_ 0)), (8, (b_ false))] (by exact ⟨rfl, rfl, rfl, rfl, rfl, trivial⟩) ?_
        exact A.meet (A6, c6) trivial (A.here (by exact ⟨rfl, rfl, rfl, rfl, rfl, trivial⟩) (.cons_cons _ (.cons_cons _ (.cons_cons _ (.cons_cons _ (.cons _ (List.Sublist.slnil)))))))
    · skip
      refine A.q (some 17) (.map (some mc)) (by kernel_rfl) (qt_load1 rfl rfl (by kernel_rfl) (reads_blk (i := 0) rfl rfl)) ?_
      refine A.and (List.Sublist.refl _) ?_
      refine A.fork3 3 10 12 rfl rfl rfl (by kernel_rfl) ?_ ?_ ?_
      · skip
        refine A.q (some 12) (.map (some mc)) (by kernel_rfl) (qt_load1 rfl rfl (by kernel_rfl) (reads_blk (i := 0) rfl rfl)) ?_
        refine A.and (List.Sublist.refl _) ?_
        refine A.fork2 10 12 rfl rfl (by kernel_rfl) ?_ ?_
        · skip
          refine A.q (some 19) (.slice (((mget cv ci).getD sl0).sa) (((mget cv ci).getD sl0).sx.length) (((mget cv ci).getD sl0).sc)) (by kernel_rfl) (qt_lookup (kt := 3) (et := 52) (enck := (fun k : Int => i_ k)) (encv := slV) (b := mc) (kv := cv) (k := ci) (d0 := sl0) (fun ww ss => ss.mem (i := 1) rfl) rfl rfl rfl (by kernel_rfl) keyOk_I (by kernel_rfl) rfl) ?_
          refine A.and (List.Sublist.refl _) ?_
          refine A.only2 12 rfl (by kernel_rfl) (A.buildSlice 21 (e := 27) [(u_ a)] (by kernel_rfl) rfl (fun _ => by kernel_rfl) (fun b7 => [blk bs [(.map (some mc)), (.map (some mr))] 58, mapI (fun k : Int => i_ k) slV mc cv, bagI 27 encU cv, mapI (fun k : Int => i_ k) (fun y : SR => (.agg #[u_ y.sp, u_ y.sb, u_ y.sr, u_ y.sw, u_ y.sg])) mr rv, blk b7 [(u_ a)] 27]) (fun _ => rfl) ?_)
          intro b7
          refine A.stage ?_
          refine A.only2 13 rfl (by kernel_rfl) (A.reshape [2] (fun _ : Unit => True) (fun _ => [bagI 27 encU (mdel cv ci), sl (((mget cv ci).getD sl0).sa) ((((mget cv ci).getD sl0).sx).length) (((mget cv ci).getD sl0).sc) 27 1 (V.flat encU (((mget cv ci).getD sl0).sx))]) (fun _ => [bagI 27 encU (mdel cv ci), sl (((mget cv ci).getD sl0).sa) ((((mget cv ci).getD sl0).sx).length) (((mget cv ci).getD sl0).sc) 27 1 (V.flat encU (((mget cv ci).getD sl0).sx)), blk bs [(.map (some mc)), (.map (some mr))] 58, mapI (fun k : Int => i_ k) slV mc cv, mapI (fun k : Int => i_ k) (fun y : SR => (.agg #[u_ y.sp, u_ y.sb, u_ y.sr, u_ y.sw, u_ y.sg])) mr rv, blk b7 [(u_ a)] 27]) rfl (fun w hs => bag_open cv ci hs) (fun _ => rfl) (fun _ _ => A.appendC (enc := encU) (xs := ((mget cv ci).getD sl0).sx) ([a]) 1 22 (e := 27) (z := (u_ 0)) (sz := 1) (by_ := 8) (by kernel_rfl) rfl rfl rfl (by kernel_rfl) (by kernel_rfl) (by rfl) (by decide) encU_len encU_one rfl (rd_blk (i := 5) rfl) (by simp; omega) (fun A8 c8 => [bagI 27 encU (mdel cv ci), sl A8 (((((mget cv ci).getD sl0).sx) ++ ([a])).length) c8 27 1 (V.flat encU ((((mget cv ci).getD sl0).sx) ++ ([a]))), blk bs [(.map (some mc)), (.map (some mr))] 58, mapI (fun k : Int => i_ k) slV mc cv, mapI (fun k : Int => i_ k) (fun y : SR => (.agg #[u_ y.sp, u_ y.sb, u_ y.sr, u_ y.sw, u_ y.sg])) mr rv, blk b7 [(u_ a)] 27]) (fun _ _ => rfl) ?_))
          intro A8 c8
          refine A.stage ?_
          refine A.only2 14 rfl (by kernel_rfl) (A.mapPut (kt := 3) (et := 52) (enck := (fun k : Int => i_ k)) (encv := slV) (kv := cv) (k := ci) 3 ⟨A8, c8, (((mget cv ci).getD sl0).sx) ++ ([a])⟩ [bagI 27 encU (mdel cv ci), sl A8 (((((mget cv ci).getD sl0).sx) ++ ([a])).length) c8 27 1 (V.flat encU ((((mget cv ci).getD sl0).sx) ++ ([a]))), blk bs [(.map (some mc)), (.map (some mr))] 58, mapI (fun k : Int => i_ k) slV mc (mput cv ci ⟨A8, c8, (((mget cv ci).getD sl0).sx) ++ ([a])⟩), mapI (fun k : Int => i_ k) (fun y : SR => (.agg #[u_ y.sp, u_ y.sb, u_ y.sr, u_ y.sw, u_ y.sg])) mr rv, blk b7 [(u_ a)] 27] (by kernel_rfl) rfl rfl rfl rfl (by kernel_rfl) keyOk_I rfl rfl ?_)
          refine A.reshape [0, 0] (fun _ : Unit => True) (fun _ => [bagI 27 encU (mput cv ci ⟨A8, c8, (((mget cv ci).getD sl0).sx) ++ ([a])⟩)]) (fun _ => [bagI 27 encU (mput cv ci ⟨A8, c8, (((mget cv ci).getD sl0).sx) ++ ([a])⟩), blk bs [(.map (some mc)), (.map (some mr))] 58, mapI (fun k : Int => i_ k) slV mc (mput cv ci ⟨A8, c8, (((mget cv ci).getD sl0).sx) ++ ([a])⟩), mapI (fun k : Int => i_ k) (fun y : SR => (.agg #[u_ y.sp, u_ y.sb, u_ y.sr, u_ y.sw, u_ y.sg])) mr rv, blk b7 [(u_ a)] 27]) rfl (fun w hs => bag_fold cv ci A8 c8 ((((mget cv ci).getD sl0).sx) ++ ([a])) hs) (fun _ => rfl) (fun _ _ => ?_)
          refine A.stage ?_
          refine A.fin2 (by kernel_rfl) ?_
          refine A.sub [(0, (p_ bs)), (1, (i_ ci)), (2, (u_ a)), (6, (i_ 0)), (8, (b_ false))] (by exact ⟨rfl, rfl, rfl, rfl, rfl, trivial⟩) ?_
          exact A.meet (A8, c8) trivial (A.here (by exact ⟨rfl, rfl, rfl, rfl, rfl, trivial⟩) (.cons_cons _ (.cons_cons _ (.cons_cons _ (.cons_cons _ (.cons _ (List.Sublist.slnil)))))))
        · skip
          refine A.buildSlice 21 (e := 27) [(u_ a)] (by kernel_rfl) rfl (fun _ => by kernel_rfl) (fun b9 => [blk bs [(.map (some mc)), (.map (some mr))] 58, mapI (fun k : Int => i_ k) slV mc cv, bagI 27 encU cv, mapI (fun k : Int => i_ k) (fun y : SR => (.agg #[u_ y.sp, u_ y.sb, u_ y.sr, u_ y.sw, u_ y.sg])) mr rv, blk b9 [(u_ a)] 27]) (fun _ => rfl) ?_
          intro b9
          refine A.stage ?_
          refine A.take2 10 (some 19) (.slice (((mget cv ci).getD sl0).sa) (((mget cv ci).getD sl0).sx.length) (((mget cv ci).getD sl0).sc)) rfl (by kernel_rfl) (by kernel_rfl) (qt_lookup (kt := 3) (et := 52) (enck := (fun k : Int => i_ k)) (encv := slV) (b := mc) (kv := cv) (k := ci) (d0 := sl0) (fun ww ss => ss.mem (i := 1) rfl) rfl rfl rfl (by kernel_rfl) keyOk_I (by kernel_rfl) rfl) ?_
          refine A.only2 13 rfl (by kernel_rfl) (A.reshape [2] (fun _ : Unit => True) (fun _ => [bagI 27 encU (mdel cv ci), sl (((mget cv ci).getD sl0).sa) ((((mget cv ci).getD sl0).sx).length) (((mget cv ci).getD sl0).sc) 27 1 (V.flat encU (((mget cv ci).getD sl0).sx))]) (fun _ => [bagI 27 encU (mdel cv ci), sl (((mget cv ci).getD sl0).sa) ((((mget cv ci).getD sl0).sx).length) (((mget cv ci).getD sl0).sc) 27 1 (V.flat encU (((mget cv ci).getD sl0).sx)), blk bs [(.map (some mc)), (.map (some mr))] 58, mapI (fun k : Int => i_ k) slV mc cv, mapI (fun k : Int => i_ k) (fun y : SR => (.agg #[u_ y.sp, u_ y.sb, u_ y.sr, u_ y.sw, u_ y.sg])) mr rv, blk b9 [(u_ a)] 27]) rfl (fun w hs => bag_open cv ci hs) (fun _ => rfl) (fun _ _ => A.appendC (enc := encU) (xs := ((mget cv ci).getD sl0).sx) ([a]) 1 22 (e := 27) (z := (u_ 0)) (sz := 1) (by_ := 8) (by kernel_rfl) rfl rfl rfl (by kernel_rfl) (by kernel_rfl) (by rfl) (by decide) encU_len encU_one rfl (rd_blk (i := 5) rfl) (by simp; omega) (fun A10 c10 => [bagI 27 encU (mdel cv ci), sl A10 (((((mget cv ci).getD sl0).sx) ++ ([a])).length) c10 27 1 (V.flat encU ((((mget cv ci).getD sl0).sx) ++ ([a]))), blk bs [(.map (some mc)), (.map (some mr))] 58, mapI (fun k : Int => i_ k) slV mc cv, mapI (fun k : Int => i_ k) (fun y : SR => (.agg #[u_ y.sp, u_ y.sb, u_ y.sr, u_ y.sw, u_ y.sg])) mr rv, blk b9 [(u_ a)] 27]) (fun _ _ => rfl) ?_))
          intro A10 c10
          refine A.stage ?_
          refine A.only2 14 rfl (by kernel_rfl) (A.mapPut (kt := 3) (et := 52) (enck := (fun k : Int => i_ k)) (encv := slV) (kv := cv) (k := ci) 3 ⟨A10, c10, (((mget cv ci).getD sl0).sx) ++ ([a])⟩ [bagI 27 encU (mdel cv ci), sl A10 (((((mget cv ci).getD sl0).sx) ++ ([a])).length) c10 27 1 (V.flat encU ((((mget cv ci).getD sl0).sx) ++ ([a]))), blk bs [(.map (some mc)), (.map (some mr))] 58, mapI (fun k : Int => i_ k) slV mc (mput cv ci ⟨A10, c10, (((mget cv ci).getD sl0).sx) ++ ([a])⟩), mapI (fun k : Int => i_ k) (fun y : SR => (.agg #[u_ y.sp, u_ y.sb, u_ y.sr, u_ y.sw, u_ y.sg])) mr rv, blk b9 [(u_ a)] 27] (by kernel_rfl) rfl rfl rfl rfl (by kernel_rfl) keyOk_I rfl rfl ?_)
          refine A.reshape [0, 0] (fun _ : Unit => True) (fun _ => [bagI 27 encU (mput cv ci ⟨A10, c10, (((mget cv ci).getD sl0).sx) ++ ([a])⟩)]) (fun _ => [bagI 27 encU (mput cv ci ⟨A10, c10, (((mget cv ci).getD sl0).sx) ++ ([a])⟩), blk bs [(.map (some mc)), (.map (some mr))] 58, mapI (fun k : Int => i_ k) slV mc (mput cv ci ⟨A10, c10, (((mget cv ci).getD sl0).sx) ++ ([a])⟩), mapI (fun k : Int => i_ k) (fun y : SR => (.agg #[u_ y.sp, u_ y.sb, u_ y.sr, u_ y.sw, u_ y.sg])) mr rv, blk b9 [(u_ a)] 27]) rfl (fun w hs => bag_fold cv ci A10 c10 ((((mget cv ci).getD sl0).sx) ++ ([a])) hs) (fun _ => rfl) (fun _ _ => ?_)
          refine A.stage ?_
          refine A.fin2 (by kernel_rfl) ?_
          refine A.sub [(0, (p_ bs)), (1, (i_ ci)), (2, (u_ a)), (6, (i_ 0)), (8, (b_ false))] (by exact ⟨rfl, rfl, rfl, rfl, rfl, trivial⟩) ?_
          exact A.meet (A10, c10) trivial (A.here (by exact ⟨rfl, rfl, rfl, rfl, rfl, trivial⟩) (.cons_cons _ (.cons_cons _ (.cons_cons _ (.cons_cons _ (.cons _ (List.Sublist.slnil)))))))
      · skip
        refine A.q (some 19) (.slice (((mget cv ci).getD sl0).sa) (((mget cv ci).getD sl0).sx.length) (((mget cv ci).getD sl0).sc)) (by kernel_rfl) (qt_lookup (kt := 3) (et := 52) (enck := (fun k : Int => i_ k)) (encv := slV) (b := mc) (kv := cv) (k := ci) (d0 := sl0) (fun ww ss => ss.mem (i := 1) rfl) rfl rfl rfl (by kernel_rfl) keyOk_I (by kernel_rfl) rfl) ?_
        refine A.and (List.Sublist.refl _) ?_
        refine A.fork2 3 12 rfl rfl (by kernel_rfl) ?_ ?_
        · skip
          refine A.q (some 12) (.map (some mc)) (by kernel_rfl) (qt_load1 rfl rfl (by kernel_rfl) (reads_blk (i := 0) rfl rfl)) ?_
          refine A.and (List.Sublist.refl _) ?_
          refine A.only2 12 rfl (by kernel_rfl) (A.buildSlice 21 (e := 27) [(u_ a)] (by kernel_rfl) rfl (fun _ => by kernel_rfl) (fun b11 => [blk bs [(.map (some mc)), (.map (some mr))] 58, mapI (fun k : Int => i_ k) slV mc cv, bagI 27 encU cv, mapI (fun k : Int => i_ k) (fun y : SR => (.agg #[u_ y.sp, u_ y.sb, u_ y.sr, u_ y.sw, u_ y.sg])) mr rv, blk b11 [(u_ a)] 27]) (fun _ => rfl) ?_)
          intro b11
          refine A.stage ?_
          refine A.only2 13 rfl (by kernel_rfl) (A.reshape [2] (fun _ : Unit => True) (fun _ => [bagI 27 encU (mdel cv ci), sl (((mget cv ci).getD sl0).sa) ((((mget cv ci).getD sl0).sx).length) (((mget cv ci).getD sl0).sc) 27 1 (V.flat encU (((mget cv ci).getD sl0).sx))]) (fun _ => [bagI 27 encU (mdel cv ci), sl (((mget cv ci).getD sl0).sa) ((((mget cv ci).getD sl0).sx).length) (((mget cv ci).getD sl0).sc) 27 1 (V.flat encU (((mget cv ci).getD sl0).sx)), blk bs [(.map (some mc)), (.map (some mr))] 58, mapI (fun k : Int => i_ k) slV mc cv, mapI (fun k : Int => i_ k) (fun y : SR => (.agg #[u_ y.sp, u_ y.sb, u_ y.sr, u_ y.sw, u_ y.sg])) mr rv, blk b11 [(u_ a)] 27]) rfl (fun w hs => bag_open cv ci hs) (fun _ => rfl) (fun _ _ => A.appendC (enc := encU) (xs := ((mget cv ci).getD sl0).sx) ([a]) 1 22 (e := 27) (z := (u_ 0)) (sz := 1) (by_ := 8) (by kernel_rfl) rfl rfl rfl (by kernel_rfl) (by kernel_rfl) (by rfl) (by decide) encU_len encU_one rfl (rd_blk (i := 5) rfl) (by simp; omega) (fun A12 c12 => [bagI 27 encU (mdel cv ci), sl A12 (((((mget cv ci).getD sl0).sx) ++ ([a])).length) c12 27 1 (V.flat encU ((((mget cv ci).getD sl0).sx) ++ ([a]))), blk bs [(.map (some mc)), (.map (some mr))] 58, mapI (fun k : Int => i_ k) slV mc cv, mapI (fun k : Int => i_ k) (fun y : SR => (.agg #[u_ y.sp, u_ y.sb, u_ y.sr, u_ y.sw, u_ y.sg])) mr rv, blk b11 [(u_ a)] 27]) (fun _ _ => rfl) ?_))
          intro A12 c12
          refine A.stage ?_
          refine A.only2 14 rfl (by kernel_rfl) (A.mapPut (kt := 3) (et := 52) (enck := (fun k : Int => i_ k)) (encv := slV) (kv := cv) (k := ci) 3 ⟨A12, c12, (((mget cv ci).getD sl0).sx) ++ ([a])⟩ [bagI 27 encU (mdel cv ci), sl A12 (((((mget cv ci).getD sl0).sx) ++ ([a])).length) c12 27 1 (V.flat encU ((((mget cv ci).getD sl0).sx) ++ ([a]))), blk bs [(.map (some mc)), (.map (some mr))] 58, mapI (fun k : Int => i_ k) slV mc (mput cv ci ⟨A12, c12, (((mget cv ci).getD sl0).sx) ++ ([a])⟩), mapI (fun k : Int => i_ k) (fun y : SR => (.agg #[u_ y.sp, u_ y.sb, u_ y.sr, u_ y.sw, u_ y.sg])) mr rv, blk b11 [(u_ a)] 27] (by kernel_rfl) rfl rfl rfl rfl (by kernel_rfl) keyOk_I rfl rfl ?_)
          refine A.reshape [0, 0] (fun _ : Unit => True) (fun _ => [bagI 27 encU (mput cv ci ⟨A12, c12, (((mget cv ci).getD sl0).sx) ++ ([a])⟩)]) (fun _ => [bagI 27 encU (mput cv ci ⟨A12, c12, (((mget cv ci).getD sl0).sx) ++ ([a])⟩), blk bs [(.map (some mc)), (.map (some mr))] 58, mapI (fun k : Int => i_ k) slV mc (mput cv ci ⟨A12, c12, (((mget cv ci).getD sl0).sx) ++ ([a])⟩), mapI (fun k : Int => i_ k) (fun y : SR => (.agg #[u_ y.sp, u_ y.sb, u_ y.sr, u_ y.sw, u_ y.sg])) mr rv, blk b11 [(u_ a)] 27]) rfl (fun w hs => bag_fold cv ci A12 c12 ((((mget cv ci).getD sl0).sx) ++ ([a])) hs) (fun _ => rfl) (fun _ _ => ?_)
          refine A.stage ?_
          refine A.fin2 (by kernel_rfl) ?_
          refine A.sub [(0, (p_ bs)), (1, (i_ ci)), (2, (u_ a)), (6, (i_ 0)), (8, (b_ false))] (by exact ⟨rfl, rfl, rfl, rfl, rfl, trivial⟩) ?_
          exact A.meet (A12, c12) trivial (A.here (by exact ⟨rfl, rfl, rfl, rfl, rfl, trivial⟩) (.cons_cons _ (.cons_cons _ (.cons_cons _ (.cons_cons _ (.cons _ (List.Sublist.slnil)))))))
        · skip
          refine A.buildSlice 21 (e := 27) [(u_ a)] (by kernel_rfl) rfl (fun _ => by kernel_rfl) (fun b13 => [blk bs [(.map (some mc)), (.map (some mr))] 58, mapI (fun k : Int => i_ k) slV mc cv, bagI 27 encU cv, mapI (fun k : Int => i_ k) (fun y : SR => (.agg #[u_ y.sp, u_ y.sb, u_ y.sr, u_ y.sw, u_ y.sg])) mr rv, blk b13 [(u_ a)] 27]) (fun _ => rfl) ?_
          intro b13
          refine A.stage ?_
          refine A.fork2 3 13 rfl rfl (by kernel_rfl) ?_ ?_
          · skip
            refine A.q (some 12) (.map (some mc)) (by kernel_rfl) (qt_load1 rfl rfl (by kernel_rfl) (reads_blk (i := 0) rfl rfl)) ?_
            refine A.and (List.Sublist.refl _) ?_
            refine A.only2 13 rfl (by kernel_rfl) (A.reshape [2] (fun _ : Unit => True) (fun _ => [bagI 27 encU (mdel cv ci), sl (((mget cv ci).getD sl0).sa) ((((mget cv ci).getD sl0).sx).length) (((mget cv ci).getD sl0).sc) 27 1 (V.flat encU (((mget cv ci).getD sl0).sx))]) (fun _ => [bagI 27 encU (mdel cv ci), sl (((mget cv ci).getD sl0).sa) ((((mget cv ci).getD sl0).sx).length) (((mget cv ci).getD sl0).sc) 27 1 (V.flat encU (((mget cv ci).getD sl0).sx)), blk bs [(.map (some mc)), (.map (some mr))] 58, mapI (fun k : Int => i_ k) slV mc cv, mapI (fun k : Int => i_ k) (fun y : SR => (.agg #[u_ y.sp, u_ y.sb, u_ y.sr, u_ y.sw, u_ y.sg])) mr rv, blk b13 [(u_ a)] 27]) rfl (fun w hs => bag_open cv ci hs) (fun _ => rfl) (fun _ _ => A.appendC (enc := encU) (xs := ((mget cv ci).getD sl0).sx) ([a]) 1 22 (e := 27) (z := (u_ 0)) (sz := 1) (by_ := 8) (by kernel_rfl) rfl rfl rfl (by kernel_rfl) (by kernel_rfl) (by rfl) (by decide) encU_len encU_one rfl (rd_blk (i := 5) rfl) (by simp; omega) (fun A14 c14 => [bagI 27 encU (mdel cv ci), sl A14 (((((mget cv ci).getD sl0).sx) ++ ([a])).length) c14 27 1 (V.flat encU ((((mget cv ci).getD sl0).sx) ++ ([a]))), blk bs [(.map (some mc)), (.map (some mr))] 58, mapI (fun k : Int => i_ k) slV mc cv, mapI (fun k : Int => i_ k) (fun y : SR => (.agg #[u_ y.sp, u_ y.sb, u_ y.sr, u_ y.sw, u_ y.sg])) mr rv, blk b13 [(u_ a)] 27]) (fun _ _ => rfl) ?_))
            intro A14 c14
            refine A.stage ?_
            refine A.only2 14 rfl (by kernel_rfl) (A.mapPut (kt := 3) (et := 52) (enck := (fun k : Int => i_ k)) (encv := slV) (kv := cv) (k := ci) 3 ⟨A14, c14, (((mget cv ci).getD sl0).sx) ++ ([a])⟩ [bagI 27 encU (mdel cv ci), sl A14 (((((mget cv ci).getD sl0).sx) ++ ([a])).length) c14 27 1 (V.flat encU ((((mget cv ci).getD sl0).sx) ++ ([a]))), blk bs [(.map (some mc)), (.map (some mr))] 58, mapI (fun k : Int => i_ k) slV mc (mput cv ci ⟨A14, c14, (((mget cv ci).getD sl0).sx) ++ ([a])⟩), mapI (fun k : Int => i_ k) (fun y : SR => (.agg #[u_ y.sp, u_ y.sb, u_ y.sr, u_ y.sw, u_ y.sg])) mr rv, blk b13 [(u_ a)] 27] (by kernel_rfl) rfl rfl rfl rfl (by kernel_rfl) keyOk_I rfl rfl ?_)
            refine A.reshape [0, 0] (fun _ : Unit => True) (fun _ => [bagI 27 encU (mput cv ci ⟨A14, c14, (((mget cv ci).getD sl0).sx) ++ ([a])⟩)]) (fun _ => [bagI 27 encU (mput cv ci ⟨A14, c14, (((mget cv ci).getD sl0).sx) ++ ([a])⟩), blk bs [(.map (some mc)), (.map (some mr))] 58, mapI (fun k : Int => i_ k) slV mc (mput cv ci ⟨A14, c14, (((mget cv ci).getD sl0).sx) ++ ([a])⟩), mapI (fun k : Int => i_ k) (fun y : SR => (.agg #[u_ y.sp, u_ y.sb, u_ y.sr, u_ y.sw, u_ y.sg])) mr rv, blk b13 [(u_ a)] 27]) rfl (fun w hs => bag_fold cv ci A14 c14 ((((mget cv ci).getD sl0).sx) ++ ([a])) hs) (fun _ => rfl) (fun _ _ => ?_)
            refine A.stage ?_
            refine A.fin2 (by kernel_rfl) ?_
            refine A.sub [(0, (p_ bs)), (1, (i_ ci)), (2, (u_ a)), (6, (i_ 0)), (8, (b_ false))] (by exact ⟨rfl, rfl, rfl, rfl, rfl, trivial⟩) ?_
            exact A.meet (A14, c14) trivial (A.here (by exact ⟨rfl, rfl, rfl, rfl, rfl, trivial⟩) (.cons_cons _ (.cons_cons _ (.cons_cons _ (.cons_cons _ (.cons _ (List.Sublist.slnil)))))))
          · skip
            refine A.reshape [2] (fun _ : Unit => True) (fun _ => [bagI 27 encU (mdel cv ci), sl (((mget cv ci).getD sl0).sa) ((((mget cv ci).getD sl0).sx).length) (((mget cv ci).getD sl0).sc) 27 1 (V.flat encU (((mget cv ci).getD sl0).sx))]) (fun _ => [bagI 27 encU (mdel cv ci), sl (((mget cv ci).getD sl0).sa) ((((mget cv ci).getD sl0).sx).length) (((mget cv ci).getD sl0).sc) 27 1 (V.flat encU (((mget cv ci).getD sl0).sx)), blk bs [(.map (some mc)), (.map (some mr))] 58, mapI (fun k : Int => i_ k) slV mc cv, mapI (fun k : Int => i_ k) (fun y : SR => (.agg #[u_ y.sp, u_ y.sb, u_ y.sr, u_ y.sw, u_ y.sg])) mr rv, blk b13 [(u_ a)] 27]) rfl (fun w hs => bag_open cv ci hs) (fun _ => rfl) (fun _ _ => A.appendC (enc := encU) (xs := ((mget cv ci).getD sl0).sx) ([a]) 1 22 (e := 27) (z := (u_ 0)) (sz := 1) (by_ := 8) (by kernel_rfl) rfl rfl rfl (by kernel_rfl) (by kernel_rfl) (by rfl) (by decide) encU_len encU_one rfl (rd_blk (i := 5) rfl) (by simp; omega) (fun A15 c15 => [bagI 27 encU (mdel cv ci), sl A15 (((((mget cv ci).getD sl0).sx) ++ ([a])).length) c15 27 1 (V.flat encU ((((mget cv ci).getD sl0).sx) ++ ([a]))), blk bs [(.map (some mc)), (.map (some mr))] 58, mapI (fun k : Int => i_ k) slV mc cv, mapI (fun k : Int => i_ k) (fun y : SR => (.agg #[u_ y.sp, u_ y.sb, u_ y.sr, u_ y.sw, u_ y.sg])) mr rv, blk b13 [(u_ a)] 27]) (fun _ _ => rfl) ?_)
            intro A15 c15
            refine A.stage ?_
            refine A.drawP 1 [.ld 2] [3] [(0, (p_ bs)), (1, (i_ ci)), (2, (u_ a)), (6, (i_ 0)), (8, (b_ false)), (13, (i_ ci)), (22, (.slice A15 (((((mget cv ci).getD sl0).sx) ++ ([a])).length) c15)), (12, (.map (some mc)))] [bs] T0 (by kernel_rfl) trivial ?_
            refine A.only2 14 rfl (by kernel_rfl) (A.mapPut (kt := 3) (et := 52) (enck := (fun k : Int => i_ k)) (encv := slV) (kv := cv) (k := ci) 3 ⟨A15, c15, (((mget cv ci).getD sl0).sx) ++ ([a])⟩ [bagI 27 encU (mdel cv ci), sl A15 (((((mget cv ci).getD sl0).sx) ++ ([a])).length) c15 27 1 (V.flat encU ((((mget cv ci).getD sl0).sx) ++ ([a]))), blk bs [(.map (some mc)), (.map (some mr))] 58, mapI (fun k : Int => i_ k) slV mc (mput cv ci ⟨A15, c15, (((mget cv ci).getD sl0).sx) ++ ([a])⟩), mapI (fun k : Int => i_ k) (fun y : SR => (.agg #[u_ y.sp, u_ y.sb, u_ y.sr, u_ y.sw, u_ y.sg])) mr rv, blk b13 [(u_ a)] 27] (by kernel_rfl) rfl rfl rfl rfl (by kernel_rfl) keyOk_I rfl rfl ?_)
            refine A.reshape [0, 0] (fun _ : Unit => True) (fun _ => [bagI 27 encU (mput cv ci ⟨A15, c15, (((mget cv ci).getD sl0).sx) ++ ([a])⟩)]) (fun _ => [bagI 27 encU (mput cv ci ⟨A15, c15, (((mget cv ci).getD sl0).sx) ++ ([a])⟩), blk bs [(.map (some mc)), (.map (some mr))] 58, mapI (fun k : Int => i_ k) slV mc (mput cv ci ⟨A15, c15, (((mget cv ci).getD sl0).sx) ++ ([a])⟩), mapI (fun k : Int => i_ k) (fun y : SR => (.agg #[u_ y.sp, u_ y.sb, u_ y.sr, u_ y.sw, u_ y.sg])) mr rv, blk b13 [(u_ a)] 27]) rfl (fun w hs => bag_fold cv ci A15 c15 ((((mget cv ci).getD sl0).sx) ++ ([a])) hs) (fun _ => rfl) (fun _ _ => ?_)
            refine A.stage ?_
            refine A.fin2 (by kernel_rfl) ?_
            refine A.sub [(0, (p_ bs)), (1, (i_ ci)), (2, (u_ a)), (6, (i_ 0)), (8, (b_ false))] (by exact ⟨rfl, rfl, rfl, rfl, rfl, trivial⟩) ?_
            exact A.meet (A15, c15) trivial (A.here (by exact ⟨rfl, rfl, rfl, rfl, rfl, trivial⟩) (.cons_cons _ (.cons_cons _ (.cons_cons _ (.cons_cons _ (.cons _ (List.Sublist.slnil)))))))
      · skip
        refine A.buildSlice 21 (e := 27) [(u_ a)] (by kernel_rfl) rfl (fun _ => by kernel_rfl) (fun b16 => [blk bs [(.map (some mc)), (.map (some mr))] 58, mapI (fun k : Int => i_ k) slV mc cv, bagI 27 encU cv, mapI (fun k : Int => i_ k) (fun y : SR => (.agg #[u_ y.sp, u_ y.sb, u_ y.sr, u_ y.sw, u_ y.sg])) mr rv, blk b16 [(u_ a)] 27]) (fun _ => rfl) ?_
        intro b16
        refine A.stage ?_
        refine A.take2 10 (some 19) (.slice (((mget cv ci).getD sl0).sa) (((mget cv ci).getD sl0).sx.length) (((mget cv ci).getD sl0).sc)) rfl (by kernel_rfl) (by kernel_rfl) (qt_lookup (kt := 3) (et := 52) (enck := (fun k : Int => i_ k)) (encv := slV) (b := mc) (kv := cv) (k := ci) (d0 := sl0) (fun ww ss => ss.mem (i := 1) rfl) rfl rfl rfl (by kernel_rfl) keyOk_I (by kernel_rfl) rfl) ?_
        refine A.fork2 3 13 rfl rfl (by kernel_rfl) ?_ ?_
        · skip
          refine A.q (some 12) (.map (some mc)) (by kernel_rfl) (qt_load1 rfl rfl (by kernel_rfl) (reads_blk (i := 0) rfl rfl)) ?_
          refine A.and (List.Sublist.refl _) ?_
          refine A.only2 13 rfl (by kernel_rfl) (A.reshape [2] (fun _ : Unit => True) (fun _ => [bagI 27 encU (mdel cv ci), sl (((mget cv ci).getD sl0).sa) ((((mget cv ci).getD sl0).sx).length) (((mget cv ci).getD sl0).sc) 27 1 (V.flat encU (((mget cv ci).getD sl0).sx))]) (fun _ => [bagI 27 encU (mdel cv ci), sl (((mget cv ci).getD sl0).sa) ((((mget cv ci).getD sl0).sx).length) (((mget cv ci).getD sl0).sc) 27 1 (V.flat encU (((mget cv ci).getD sl0).sx)), blk bs [(.map (some mc)), (.map (some mr))] 58, mapI (fun k : Int => i_ k) slV mc cv, mapI (fun k : Int => i_ k) (fun y : SR => (.agg #[u_ y.sp, u_ y.sb, u_ y.sr, u_ y.sw, u_ y.sg])) mr rv, blk b16 [(u_ a)] 27]) rfl (fun w hs => bag_open cv ci hs) (fun _ => rfl) (fun _ _ => A.appendC (enc := encU) (xs := ((mget cv ci).getD sl0).sx) ([a]) 1 22 (e := 27) (z := (u_ 0)) (sz := 1) (by_ := 8) (by kernel_rfl) rfl rfl rfl (by kernel_rfl) (by kernel_rfl) (by rfl) (by decide) encU_len encU_one rfl (rd_blk (i := 5) rfl) (by simp; omega) (fun A17 c17 => [bagI 27 encU (mdel cv ci), sl A17 (((((mget cv ci).getD sl0).sx) ++ ([a])).length) c17 27 1 (V.flat encU ((((mget cv ci).getD sl0).sx) ++ ([a]))), blk bs [(.map (some mc)), (.map (some mr))] 58, mapI (fun k : Int => i_ k) slV mc cv, mapI (fun k : Int => i_ k) (fun y : SR => (.agg #[u_ y.sp, u_ y.sb, u_ y.sr, u_ y.sw, u_ y.sg])) mr rv, blk b16 [(u_ a)] 27]) (fun _ _ => rfl) ?_))
          intro A17 c17
          refine A.stage ?_
          refine A.only2 14 rfl (by kernel_rfl) (A.mapPut (kt := 3) (et := 52) (enck := (fun k : Int => i_ k)) (encv := slV) (kv := cv) (k := ci) 3 ⟨A17, c17, (((mget cv ci).getD sl0).sx) ++ ([a])⟩ [bagI 27 encU (mdel cv ci), sl A17 (((((mget cv ci).getD sl0).sx) ++ ([a])).length) c17 27 1 (V.flat encU ((((mget cv ci).getD sl0).sx) ++ ([a]))), blk bs [(.map (some mc)), (.map (some mr))] 58, mapI (fun k : Int => i_ k) slV mc (mput cv ci ⟨A17, c17, (((mget cv ci).getD sl0).sx) ++ ([a])⟩), mapI (fun k : Int => i_ k) (fun y : SR => (.agg #[u_ y.sp, u_ y.sb, u_ y.sr, u_ y.sw, u_ y.sg])) mr rv, blk b16 [(u_ a)] 27] (by kernel_rfl) rfl rfl rfl rfl (by kernel_rfl) keyOk_I rfl rfl ?_)
          refine A.reshape [0, 0] (fun _ : Unit => True) (fun _ => [bagI 27 encU (mput cv ci ⟨A17, c17, (((mget cv ci).getD sl0).sx) ++ ([a])⟩)]) (fun _ => [bagI 27 encU (mput cv ci ⟨A17, c17, (((mget cv ci).getD sl0).sx) ++ ([a])⟩), blk bs [(.map (some mc)), (.map (some mr))] 58, mapI (fun k : Int => i_ k) slV mc (mput cv ci ⟨A17, c17, (((mget cv ci).getD sl0).sx) ++ ([a])⟩), mapI (fun k : Int => i_ k) (fun y : SR => (.agg #[u_ y.sp, u_ y.sb, u_ y.sr, u_ y.sw, u_ y.sg])) mr rv, blk b16 [(u_ a)] 27]) rfl (fun w hs => bag_fold cv ci A17 c17 ((((mget cv ci).getD sl0).sx) ++ ([a])) hs) (fun _ => rfl) (fun _ _ => ?_)
          refine A.stage ?_
          refine A.fin2 (by kernel_rfl) ?_
          refine A.sub [(0, (p_ bs)), (1, (i_ ci)), (2, (u_ a)), (6, (i_ 0)), (8, (b_ false))] (by exact ⟨rfl, rfl, rfl, rfl, rfl, trivial⟩) ?_
          exact A.meet (A17, c17) trivial (A.here (by exact ⟨rfl, rfl, rfl, rfl, rfl, trivial⟩) (.cons_cons _ (.cons_cons _ (.cons_cons _ (.cons_cons _ (.cons _ (List.Sublist.slnil)))))))
        · skip
          refine A.reshape [2] (fun _ : Unit => True) (fun _ => [bagI 27 encU (mdel cv ci), sl (((mget cv ci).getD sl0).sa) ((((mget cv ci).getD sl0).sx).length) (((mget cv ci).getD sl0).sc) 27 1 (V.flat encU (((mget cv ci).getD sl0).sx))]) (fun _ => [bagI 27 encU (mdel cv ci), sl (((mget cv ci).getD sl0).sa) ((((mget cv ci).getD sl0).sx).length) (((mget cv ci).getD sl0).sc) 27 1 (V.flat encU (((mget cv ci).getD sl0).sx)), blk bs [(.map (some mc)), (.map (some mr))] 58, mapI (fun k : Int => i_ k) slV mc cv, mapI (fun k : Int => i_ k) (fun y : SR => (.agg #[u_ y.sp, u_ y.sb, u_ y.sr, u_ y.sw, u_ y.sg])) mr rv, blk b16 [(u_ a)] 27]) rfl (fun w hs => bag_open cv ci hs) (fun _ => rfl) (fun _ _ => A.appendC (enc := encU) (xs := ((mget cv ci).getD sl0).sx) ([a]) 1 22 (e := 27) (z := (u_ 0)) (sz := 1) (by_ := 8) (by kernel_rfl) rfl rfl rfl (by kernel_rfl) (by kernel_rfl) (by rfl) (by decide) encU_len encU_one rfl (rd_blk (i := 5) rfl) (by simp; omega) (fun A18 c18 => [bagI 27 encU (mdel cv ci), sl A18 (((((mget cv ci).getD sl0).sx) ++ ([a])).length) c18 27 1 (V.flat encU ((((mget cv ci).getD sl0).sx) ++ ([a]))), blk bs [(.map (some mc)), (.map (some mr))] 58, mapI (fun k : Int => i_ k) slV mc cv, mapI (fun k : Int => i_ k) (fun y : SR => (.agg #[u_ y.sp, u_ y.sb, u_ y.sr, u_ y.sw, u_ y.sg])) mr rv, blk b16 [(u_ a)] 27]) (fun _ _ => rfl) ?_)
          intro A18 c18
          refine A.stage ?_
          refine A.drawP 1 [.ld 2] [3] [(0, (p_ bs)), (1, (i_ ci)), (2, (u_ a)), (6, (i_ 0)), (8, (b_ false)), (13, (i_ ci)), (22, (.slice A18 (((((mget cv ci).getD sl0).sx) ++ ([a])).length) c18)), (12, (.map (some mc)))] [bs] T0 (by kernel_rfl) trivial ?_
          refine A.only2 14 rfl (by kernel_rfl) (A.mapPut (kt := 3) (et := 52) (enck := (fun k : Int => i_ k)) (encv := slV) (kv := cv) (k := ci) 3 ⟨A18, c18, (((mget cv ci).getD sl0).sx) ++ ([a])⟩ [bagI 27 encU (mdel cv ci), sl A18 (((((mget cv ci).getD sl0).sx) ++ ([a])).length) c18 27 1 (V.flat encU ((((mget cv ci).getD sl0).sx) ++ ([a]))), blk bs [(.map (some mc)), (.map (some mr))] 58, mapI (fun k : Int => i_ k) slV mc (mput cv ci ⟨A18, c18, (((mget cv ci).getD sl0).sx) ++ ([a])⟩), mapI (fun k : Int => i_ k) (fun y : SR => (.agg #[u_ y.sp, u_ y.sb, u_ y.sr, u_ y.sw, u_ y.sg])) mr rv, blk b16 [(u_ a)] 27] (by kernel_rfl) rfl rfl rfl rfl (by kernel_rfl) keyOk_I rfl rfl ?_)
          refine A.reshape [0, 0] (fun _ : Unit => True) (fun _ => [bagI 27 encU (mput cv ci ⟨A18, c18, (((mget cv ci).getD sl0).sx) ++ ([a])⟩)]) (fun _ => [bagI 27 encU (mput cv ci ⟨A18, c18, (((mget cv ci).getD sl0).sx) ++ ([a])⟩), blk bs [(.map (some mc)), (.map (some mr))] 58, mapI (fun k : Int => i_ k) slV mc (mput cv ci ⟨A18, c18, (((mget cv ci).getD sl0).sx) ++ ([a])⟩), mapI (fun k : Int => i_ k) (fun y : SR => (.agg #[u_ y.sp, u_ y.sb, u_ y.sr, u_ y.sw, u_ y.sg])) mr rv, blk b16 [(u_ a)] 27]) rfl (fun w hs => bag_fold cv ci A18 c18 ((((mget cv ci).getD sl0).sx) ++ ([a])) hs) (fun _ => rfl) (fun _ _ => ?_)
          refine A.stage ?_
          refine A.fin2 (by kernel_rfl) ?_
          refine A.sub [(0, (p_ bs)), (1, (i_ ci)), (2, (u_ a)), (6, (i_ 0)), (8, (b_ false))] (by exact ⟨rfl, rfl, rfl, rfl, rfl, trivial⟩) ?_
          exact A.meet (A18, c18) trivial (A.here (by exact ⟨rfl, rfl, rfl, rfl, rfl, trivial⟩) (.cons_cons _ (.cons_cons _ (.cons_cons _ (.cons_cons _ (.cons _ (List.Sublist.slnil)))))))
    · skip
      refine A.buildSlice 21 (e := 27) [(u_ a)] (by kernel_rfl) rfl (fun _ => by kernel_rfl) (fun b19 => [blk bs [(.map (some mc)), (.map (some mr))] 58, mapI (fun k : Int => i_ k) slV mc cv, bagI 27 encU cv, mapI (fun k : Int => i_ k) (fun y : SR => (.agg #[u_ y.sp, u_ y.sb, u_ y.sr, u_ y.sw, u_ y.sg])) mr rv, blk b19 [(u_ a)] 27]) (fun _ => rfl) ?_
      intro b19
      refine A.stage ?_
      refine A.drawP 4 [.ld 0] [8] [(0, (p_ bs)), (1, (i_ ci)), (2, (u_ a)), (6, (i_ 0)), (8, (b_ false)), (11, (p_ bs)), (13, (i_ ci)), (18, (i_ ci)), (21, (.slice (some ⟨b19, 0, none⟩) 1 1)), (17, (.map (some mc)))] [bs] T0 (by kernel_rfl) trivial ?_
      refine A.take2 10 (some 19) (.slice (((mget cv ci).getD sl0).sa) (((mget cv ci).getD sl0).sx.length) (((mget cv ci).getD sl0).sc)) rfl (by kernel_rfl) (by kernel_rfl) (qt_lookup (kt := 3) (et := 52) (enck := (fun k : Int => i_ k)) (encv := slV) (b := mc) (kv := cv) (k := ci) (d0 := sl0) (fun ww ss => ss.mem (i := 1) rfl) rfl rfl rfl (by kernel_rfl) keyOk_I (by kernel_rfl) rfl) ?_
      refine A.fork2 3 13 rfl rfl (by kernel_rfl) ?_ ?_
      · skip
        refine A.q (some 12) (.map (some mc)) (by kernel_rfl) (qt_load1 rfl rfl (by kernel_rfl) (reads_blk (i := 0) rfl rfl)) ?_
        refine A.and (List.Sublist.refl _) ?_
        refine A.only2 13 rfl (by kernel_rfl) (A.reshape [2] (fun _ : Unit => True) (fun _ => [bagI 27 encU (mdel cv ci), sl (((mget cv ci).getD sl0).sa) ((((mget cv ci).getD sl0).sx).length) (((mget cv ci).getD sl0).sc) 27 1 (V.flat encU (((mget cv ci).getD sl0).sx))]) (fun _ => [bagI 27 encU (mdel cv ci), sl (((mget cv ci).getD sl0).sa) ((((mget cv ci).getD sl0).sx).length) (((mget cv ci).getD sl0).sc) 27 1 (V.flat encU (((mget cv ci).getD sl0).sx)), blk bs [(.map (some mc)), (.map (some mr))] 58, mapI (fun k : Int => i_ k) slV mc cv, mapI (fun k : Int => i_ k) (fun y : SR => (.agg #[u_ y.sp, u_ y.sb, u_ y.sr, u_ y.sw, u_ y.sg])) mr rv, blk b19 [(u_ a)] 27]) rfl (fun w hs => bag_open cv ci hs) (fun _ => rfl) (fun _ _ => A.appendC (enc := encU) (xs := ((mget cv ci).getD sl0).sx) ([a]) 1 22 (e := 27) (z := (u_ 0)) (sz := 1) (by_ := 8) (by kernel_rfl) rfl rfl rfl (by kernel_rfl) (by kernel_rfl) (by rfl) (by decide) encU_len encU_one rfl (rd_blk (i := 5) rfl) (by simp; omega) (fun A20 c20 => [bagI 27 encU (mdel cv ci), sl A20 (((((mget cv ci).getD sl0).sx) ++ ([a])).length) c20 27 1 (V.flat encU ((((mget cv ci).getD sl0).sx) ++ ([a]))), blk bs [(.map (some mc)), (.map (some mr))] 58, mapI (fun k : Int => i_ k) slV mc cv, mapI (fun k : Int => i_ k) (fun y : SR => (.agg #[u_ y.sp, u_ y.sb, u_ y.sr, u_ y.sw, u_ y.sg])) mr rv, blk b19 [(u_ a)] 27]) (fun _ _ => rfl) ?_))
        intro A20 c20
        refine A.stage ?_
        refine A.only2 14 rfl (by kernel_rfl) (A.mapPut (kt := 3) (et := 52) (enck := (fun k : Int => i_ k)) (encv := slV) (kv := cv) (k := ci) 3 ⟨A20, c20, (((mget cv ci).getD sl0).sx) ++ ([a])⟩ [bagI 27 encU (mdel cv ci), sl A20 (((((mget cv ci).getD sl0).sx) ++ ([a])).length) c20 27 1 (V.flat encU ((((mget cv ci).getD sl0).sx) ++ ([a]))), blk bs [(.map (some mc)), (.map (some mr))] 58, mapI (fun k : Int => i_ k) slV mc (mput cv ci ⟨A20, c20, (((mget cv ci).getD sl0).sx) ++ ([a])⟩), mapI (fun k : Int => i_ k) (fun y : SR => (.agg #[u_ y.sp, u_ y.sb, u_ y.sr, u_ y.sw, u_ y.sg])) mr rv, blk b19 [(u_ a)] 27] (by kernel_rfl) rfl rfl rfl rfl (by kernel_rfl) keyOk_I rfl rfl ?_)
        refine A.reshape [0, 0] (fun _ : Unit => True) (fun _ => [bagI 27 encU (mput cv ci ⟨A20, c20, (((mget cv ci).getD sl0).sx) ++ ([a])⟩)]) (fun _ => [bagI 27 encU (mput cv ci ⟨A20, c20, (((mget cv ci).getD sl0).sx) ++ ([a])⟩), blk bs [(.map (some mc)), (.map (some mr))] 58, mapI (fun k : Int => i_ k) slV mc (mput cv ci ⟨A20, c20, (((mget cv ci).getD sl0).sx) ++ ([a])⟩), mapI (fun k : Int => i_ k) (fun y : SR => (.agg #[u_ y.sp, u_ y.sb, u_ y.sr, u_ y.sw, u_ y.sg])) mr rv, blk b19 [(u_ a)] 27]) rfl (fun w hs => bag_fold cv ci A20 c20 ((((mget cv ci).getD sl0).sx) ++ ([a])) hs) (fun _ => rfl) (fun _ _ => ?_)
        refine A.stage ?_
        refine A.fin2 (by kernel_rfl) ?_
        refine A.sub [(0, (p_ bs)), (1, (i_ ci)), (2, (u_ a)), (6, (i_ 0)), (8, (b_ false))] (by exact ⟨rfl, rfl, rfl, rfl, rfl, trivial⟩) ?_
        exact A.meet (A20, c20) trivial (A.here (by exact ⟨rfl, rfl, rfl, rfl, rfl, trivial⟩) (.cons_cons _ (.cons_cons _ (.cons_cons _ (.cons_cons _ (.cons _ (List.Sublist.slnil)))))))
      · skip
        refine A.reshape [2] (fun _ : Unit => True) (fun _ => [bagI 27 encU (mdel cv ci), sl (((mget cv ci).getD sl0).sa) ((((mget cv ci).getD sl0).sx).length) (((mget cv ci).getD sl0).sc) 27 1 (V.flat encU (((mget cv ci).getD sl0).sx))]) (fun _ => [bagI 27 encU (mdel cv ci), sl (((mget cv ci).getD sl0).sa) ((((mget cv ci).getD sl0).sx).length) (((mget cv ci).getD sl0).sc) 27 1 (V.flat encU (((mget cv ci).getD sl0).sx)), blk bs [(.map (some mc)), (.map (some mr))] 58, mapI (fun k : Int => i_ k) slV mc cv, mapI (fun k : Int => i_ k) (fun y : SR => (.agg #[u_ y.sp, u_ y.sb, u_ y.sr, u_ y.sw, u_ y.sg])) mr rv, blk b19 [(u_ a)] 27]) rfl (fun w hs => bag_open cv ci hs) (fun _ => rfl) (fun _ _ => A.appendC (enc := encU) (xs := ((mget cv ci).getD sl0).sx) ([a]) 1 22 (e := 27) (z := (u_ 0)) (sz := 1) (by_ := 8) (by kernel_rfl) rfl rfl rfl (by kernel_rfl) (by kernel_rfl) (by rfl) (by decide) encU_len encU_one rfl (rd_blk (i := 5) rfl) (by simp; omega) (fun A21 c21 => [bagI 27 encU (mdel cv ci), sl A21 (((((mget cv ci).getD sl0).sx) ++ ([a])).length) c21 27 1 (V.flat encU ((((mget cv ci).getD sl0).sx) ++ ([a]))), blk bs [(.map (some mc)), (.map (some mr))] 58, mapI (fun k : Int => i_ k) slV mc cv, mapI (fun k : Int => i_ k) (fun y : SR => (.agg #[u_ y.sp, u_ y.sb, u_ y.sr, u_ y.sw, u_ y.sg])) mr rv, blk b19 [(u_ a)] 27]) (fun _ _ => rfl) ?_)
        intro A21 c21
        refine A.stage ?_
        refine A.drawP 1 [.ld 2] [3] [(0, (p_ bs)), (1, (i_ ci)), (2, (u_ a)), (6, (i_ 0)), (8, (b_ false)), (13, (i_ ci)), (22, (.slice A21 (((((mget cv ci).getD sl0).sx) ++ ([a])).length) c21)), (12, (.map (some mc)))] [bs] T0 (by kernel_rfl) trivial ?_
        refine A.only2 14 rfl (by kernel_rfl) (A.mapPut (kt := 3) (et := 52) (enck := (fun k : Int => i_ k)) (encv := slV) (kv := cv) (k := ci) 3 ⟨A21, c21, (((mget cv ci).getD sl0).sx) ++ ([a])⟩ [bagI 27 encU (mdel cv ci), sl A21 (((((mget cv ci).getD sl0).sx) ++ ([a])).length) c21 27 1 (V.flat encU ((((mget cv ci).getD sl0).sx) ++ ([a]))), blk bs [(.map (some mc)), (.map (some mr))] 58, mapI (fun k : Int => i_ k) slV mc (mput cv ci ⟨A21, c21, (((mget cv ci).getD sl0).sx) ++ ([a])⟩), mapI (fun k : Int => i_ k) (fun y : SR => (.agg #[u_ y.sp, u_ y.sb, u_ y.sr, u_ y.sw, u_ y.sg])) mr rv, blk b19 [(u_ a)] 27] (by kernel_rfl) rfl rfl rfl rfl (by kernel_rfl) keyOk_I rfl rfl ?_)
        refine A.reshape [0, 0] (fun _ : Unit => True) (fun _ => [bagI 27 encU (mput cv ci ⟨A21, c21, (((mget cv ci).getD sl0).sx) ++ ([a])⟩)]) (fun _ => [bagI 27 encU (mput cv ci ⟨A21, c21, (((mget cv ci).getD sl0).sx) ++ ([a])⟩), blk bs [(.map (some mc)), (.map (some mr))] 58, mapI (fun k : Int => i_ k) slV mc (mput cv ci ⟨A21, c21, (((mget cv ci).getD sl0).sx) ++ ([a])⟩), mapI (fun k : Int => i_ k) (fun y : SR => (.agg #[u_ y.sp, u_ y.sb, u_ y.sr, u_ y.sw, u_ y.sg])) mr rv, blk b19 [(u_ a)] 27]) rfl (fun w hs => bag_fold cv ci A21 c21 ((((mget cv ci).getD sl0).sx) ++ ([a])) hs) (fun _ => rfl) (fun _ _ => ?_)
        refine A.stage ?_
        refine A.fin2 (by kernel_rfl) ?_
        refine A.sub [(0, (p_ bs)), (1, (i_ ci)), (2, (u_ a)), (6, (i_ 0)), (8, (b_ false))] (by exact ⟨rfl, rfl, rfl, rfl, rfl, trivial⟩) ?_
        exact A.meet (A21, c21) trivial (A.here (by exact ⟨rfl, rfl, rfl, rfl, rfl, trivial⟩) (.cons_cons _ (.cons_cons _ (.cons_cons _ (.cons_cons _ (.cons _ (List.Sublist.slnil)))))))
  · skip
    obtain ⟨A2, c2⟩ := zz_
    refine A.norm [(0, (p_ bs)), (1, (i_ ci)), (2, (u_ a)), (6, (i_ 0)), (8, (b_ false))] [bagI 27 encU (mput cv ci ⟨A2, c2, (((mget cv ci).getD sl0).sx) ++ ([a])⟩), blk bs [(.map (some mc)), (.map (some mr))] 58, mapI (fun k : Int => i_ k) slV mc (mput cv ci ⟨A2, c2, (((mget cv ci).getD sl0).sx) ++ ([a])⟩), mapI (fun k : Int => i_ k) (fun y : SR => (.agg #[u_ y.sp, u_ y.sb, u_ y.sr, u_ y.sw, u_ y.sg])) mr rv] (by exact ⟨rfl, rfl, rfl, rfl, rfl, trivial⟩) rfl ?_
    refine A.tn ?_
    refine A.seq ?_
    refine A.region (A.goA [.p] [(0, (p_ bs)), (1, (i_ ci)), (2, (u_ a)), (6, (i_ 0)), (8, (b_ false))] [] T0 (by kernel_rfl) trivial ?_)
    refine A.tn ?_
    refine A.ret ?_
    refine A.postK [1, 1, 0, 0] [(i_ 0)] (fun aa ww rr ss => ⟨rv_tmp rr rfl, trivial⟩) (mput cv ci ⟨A2, c2, (((mget cv ci).getD sl0).sx) ++ ([a])⟩) ?_ ?_ (by kernel_rfl)
    · rfl
    · show CamP cv ci a (mput cv ci ⟨A2, c2, (((mget cv ci).getD sl0).sx) ++ ([a])⟩)
      exact ⟨_, _, rfl⟩

set_option maxHeartbeats 4000000 in
set_option maxRecDepth 100000 in
theorem st_row_nil (ci : Int) (w : World) :
    Calls Try.prog 13 #[n_, (i_ ci)] w fun e w' => e = .returned (.agg #[(u_ 0), (u_ 0), (u_ 0), (u_ 0), (u_ 0)]) ∧ Fr [] w w' := by
  refine calls_of (args := [n_, (i_ ci)]) (penv [n_, (i_ ci)]) [] [] Try.func13 rfl rfl (look_penv _) (HS.nil w) ?_
  refine A.norm [(0, n_), (1, (i_ ci))] [] (by exact ⟨rfl, rfl, trivial⟩) rfl ?_
  refine A.seq ?_
  refine A.region (A.goA1 [.al] [0, 1, 4] (fun b1 => [(0, n_), (1, (i_ ci)), (4, (p_ b1))]) (fun b1 => [blk b1 [(u_ 0), (u_ 0), (u_ 0), (u_ 0), (u_ 0)] 39]) (fun b1 => []) (fun _ => T0) (fun _ => by kernel_rfl) (fun b1 => trivial) ?_)
  intro b1
  refine A.tn ?_
  refine A.seq ?_
  refine A.seq ?_
  refine A.region (A.goA [.p, .p] [(0, n_), (1, (i_ ci)), (4, (p_ b1)), (6, (b_ true))] [] T0 (by kernel_rfl) trivial ?_)
  refine A.tn ?_
  refine A.cond_t rfl ?_
  refine A.seq ?_
  refine A.region (A.goAS [.p, .st 0] [(0, n_), (1, (i_ ci)), (4, (p_ b1)), (6, (b_ true))] [blk b1 [(u_ 0), (u_ 0), (u_ 0), (u_ 0), (u_ 0)] 39] [b1] T0 (by kernel_rfl) trivial ?_)
  refine A.tn ?_
  refine A.ret ?_
  refine A.tr ?_
  refine A.postQ [(.agg #[(u_ 0), (u_ 0), (u_ 0), (u_ 0), (u_ 0)])] (fun aa ww rr ss => ⟨rv_cellN (vs := [(u_ 0), (u_ 0), (u_ 0), (u_ 0), (u_ 0)]) rr ss rfl (by kernel_rfl) (reads_blk (i := 0) rfl rfl), trivial⟩) ?_
  rfl

set_option maxHeartbeats 4000000 in
set_option maxRecDepth 100000 in
theorem st_row (bs mc mr : Nat) (rv : List (Int × SR)) (ci : Int) (w : World) (r0 : (blk bs [(.map (some mc)), (.map (some mr))] 58).holds w) (r1 : (mapI (fun k : Int => i_ k) (fun y : SR => (.agg #[u_ y.sp, u_ y.sb, u_ y.sr, u_ y.sw, u_ y.sg])) mr rv).holds w) :
    Calls Try.prog 13 #[(p_ bs), (i_ ci)] w fun e w' => e = .returned (.agg #[(u_ (((mget rv ci).getD sr0).sp)), (u_ (((mget rv ci).getD sr0).sb)), (u_ (((mget rv ci).getD sr0).sr)), (u_ (((mget rv ci).getD sr0).sw)), (u_ (((mget rv ci).getD sr0).sg))]) ∧ Fr [] w w' := by
  refine calls_of (args := [(p_ bs), (i_ ci)]) (penv [(p_ bs), (i_ ci)]) [] [] Try.func13 rfl rfl (look_penv _) (HS.nil w) ?_
  refine A.norm [(0, (p_ bs)), (1, (i_ ci))] [] (by exact ⟨rfl, rfl, trivial⟩) rfl ?_
  refine A.seq ?_
  refine A.region (A.goA1 [.al] [0, 1, 4] (fun b1 => [(0, (p_ bs)), (1, (i_ ci)), (4, (p_ b1))]) (fun b1 => [blk b1 [(u_ 0), (u_ 0), (u_ 0), (u_ 0), (u_ 0)] 39]) (fun b1 => []) (fun _ => T0) (fun _ => by kernel_rfl) (fun b1 => trivial) ?_)
  intro b1
  refine A.tn ?_
  refine A.seq ?_
  refine A.seq ?_
  refine A.region (A.goA [.p, .p] [(0, (p_ bs)), (1, (i_ ci)), (4, (p_ b1)), (6, (b_ false))] [] T0 (by kernel_rfl) trivial ?_)
  refine A.tn ?_
  refine A.cond_f rfl ?_
  refine A.skip ?_
  refine A.tn ?_
  refine A.seq ?_
  refine A.region (A.goP [.p, .p, .p, .rd [(.map (some mr))], .p] [(0, (p_ bs)), (1, (i_ ci)), (4, (p_ b1)), (6, (b_ false)), (11, (.map (some mr))), (12, (i_ ci))] [] (fun κ => κ.rd ⟨bs, 1, none⟩ [(.map (some mr))] ∧ True) (by kernel_rfl) ⟨(reads_oldblk r0 rfl), trivial⟩ ?_)
  refine A.cons (A.q (some 13) (.agg #[(u_ (((mget rv ci).getD sr0).sp)), (u_ (((mget rv ci).getD sr0).sb)), (u_ (((mget rv ci).getD sr0).sr)), (u_ (((mget rv ci).getD sr0).sw)), (u_ (((mget rv ci).getD sr0).sg))]) (by kernel_rfl) (qt_lookup (kt := 3) (et := 39) (enck := (fun k : Int => i_ k)) (encv := (fun y : SR => (.agg #[u_ y.sp, u_ y.sb, u_ y.sr, u_ y.sw, u_ y.sg]))) (b := mr) (kv := rv) (k := ci) (d0 := sr0) (fun ww ss => old_item ss r1) rfl rfl rfl (by kernel_rfl) keyOk_I (by kernel_rfl) rfl) ?_)
  refine A.goAS [.st 0] [(0, (p_ bs)), (1, (i_ ci)), (4, (p_ b1)), (6, (b_ false))] [blk b1 [(u_ (((mget rv ci).getD sr0).sp)), (u_ (((mget rv ci).getD sr0).sb)), (u_ (((mget rv ci).getD sr0).sr)), (u_ (((mget rv ci).getD sr0).sw)), (u_ (((mget rv ci).getD sr0).sg))] 39] [b1] T0 (by kernel_rfl) trivial ?_
  refine A.tn ?_
  refine A.ret ?_
  refine A.postQ [(.agg #[(u_ (((mget rv ci).getD sr0).sp)), (u_ (((mget rv ci).getD sr0).sb)), (u_ (((mget rv ci).getD sr0).sr)), (u_ (((mget rv ci).getD sr0).sw)), (u_ (((mget rv ci).getD sr0).sg))])] (fun aa ww rr ss => ⟨rv_cellN (vs := [(u_ (((mget rv ci).getD sr0).sp)), (u_ (((mget rv ci).getD sr0).sb)), (u_ (((mget rv ci).getD sr0).sr)), (u_ (((mget rv ci).getD sr0).sw)), (u_ (((mget rv ci).getD sr0).sg))]) rr ss rfl (by kernel_rfl) (reads_blk (i := 0) rfl rfl), trivial⟩) ?_
  rfl

set_option maxHeartbeats 4000000 in
set_option maxRecDepth 100000 in
theorem st_wait_nil (ci : Int) (w : World) :
    Calls Try.prog 16 #[n_, (i_ ci)] w fun e w' => e = .returned (i_ 0) ∧ Fr [] w w' := by
  refine calls_of (args := [n_, (i_ ci)]) (penv [n_, (i_ ci)]) [] [] Try.func16 rfl rfl (look_penv _) (HS.nil w) ?_
  refine A.norm [(0, n_), (1, (i_ ci))] [] (by exact ⟨rfl, rfl, trivial⟩) rfl ?_
  refine A.seq ?_
  refine A.region (A.goA [.p] [(0, n_), (1, (i_ ci)), (4, (i_ 0))] [] T0 (by kernel_rfl) trivial ?_)
  refine A.tn ?_
  refine A.seq ?_
  refine A.seq ?_
  refine A.region (A.goA [.p, .p] [(0, n_), (1, (i_ ci)), (4, (i_ 0)), (6, (b_ true))] [] T0 (by kernel_rfl) trivial ?_)
  refine A.tn ?_
  refine A.cond_t rfl ?_
  refine A.seq ?_
  refine A.region (A.goA [.p] [(0, n_), (1, (i_ ci)), (4, (i_ 0)), (6, (b_ true))] [] T0 (by kernel_rfl) trivial ?_)
  refine A.tn ?_
  refine A.ret ?_
  refine A.tr ?_
  refine A.postQ [(i_ 0)] (fun aa ww rr ss => ⟨rv_tmp rr rfl, trivial⟩) ?_
  rfl

set_option maxHeartbeats 4000000 in
set_option maxRecDepth 100000 in
theorem st_wait (bs mc mr : Nat) (cv : List (Int × SL)) (ci : Int) (w : World) (r0 : (blk bs [(.map (some mc)), (.map (some mr))] 58).holds w) (r1 : (mapI (fun k : Int => i_ k) slV mc cv).holds w) :
    Calls Try.prog 16 #[(p_ bs), (i_ ci)] w fun e w' => e = .returned (i_ (((mget cv ci).getD sl0).sx.length : Int)) ∧ Fr [] w w' := by
  refine calls_of (args := [(p_ bs), (i_ ci)]) (penv [(p_ bs), (i_ ci)]) [] [] Try.func16 rfl rfl (look_penv _) (HS.nil w) ?_
  refine A.norm [(0, (p_ bs)), (1, (i_ ci))] [] (by exact ⟨rfl, rfl, trivial⟩) rfl ?_
  refine A.seq ?_
  refine A.region (A.goA [.p] [(0, (p_ bs)), (1, (i_ ci)), (4, (i_ 0))] [] T0 (by kernel_rfl) trivial ?_)
  refine A.tn ?_
  refine A.seq ?_
  refine A.seq ?_
  refine A.region (A.goA [.p, .p] [(0, (p_ bs)), (1, (i_ ci)), (4, (i_ 0)), (6, (b_ false))] [] T0 (by kernel_rfl) trivial ?_)
  refine A.tn ?_
  refine A.cond_f rfl ?_
  refine A.skip ?_
  refine A.tn ?_
  refine A.seq ?_
  refine A.region (A.goP [.p, .p, .p, .rd [(.map (some mc))], .p] [(0, (p_ bs)), (1, (i_ ci)), (4, (i_ 0)), (6, (b_ false)), (10, (.map (some mc))), (11, (i_ ci))] [] (fun κ => κ.rd ⟨bs, 0, none⟩ [(.map (some mc))] ∧ True) (by kernel_rfl) ⟨(reads_oldblk r0 rfl), trivial⟩ ?_)
  refine A.cons (A.q (some 12) (.slice (((mget cv ci).getD sl0).sa) (((mget cv ci).getD sl0).sx.length) (((mget cv ci).getD sl0).sc)) (by kernel_rfl) (qt_lookup (kt := 3) (et := 52) (enck := (fun k : Int => i_ k)) (encv := slV) (b := mc) (kv := cv) (k := ci) (d0 := sl0) (fun ww ss => old_item ss r1) rfl rfl rfl (by kernel_rfl) keyOk_I (by kernel_rfl) rfl) ?_)
  refine A.goA [.p, .p] [(0, (p_ bs)), (1, (i_ ci)), (4, (i_ (((mget cv ci).getD sl0).sx.length : Int))), (6, (b_ false))] [] T0 (by kernel_rfl) trivial ?_
  refine A.tn ?_
  refine A.ret ?_
  refine A.postQ [(i_ (((mget cv ci).getD sl0).sx.length : Int))] (fun aa ww rr ss => ⟨rv_tmp rr rfl, trivial⟩) ?_
  rfl
end Go.Proofs.Ytlhchmmjkokamaa
