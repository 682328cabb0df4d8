/- What the functions of this layer do, proved operation by operation, for all arguments, under the conditions that each theorem states. -/
import Derived.Test.YtlhchmmjkokamaaProg
import Derived.Test.YtlhchmmjkokamaaStat9
namespace Go.Proofs.Ytlhchmmjkokamaa
open Go V
set_option linter.unusedVariables false
set_option linter.unusedSimpArgs false
def UOk (x : Int) : Prop := (0 ≤ x ∧ x ≤ 18446744073709551615)
def ksU : List FK := [.int .u64]
theorem openU (cs : List Value) (h : FitsL ksU cs) : ∃ x, cs = encU x ∧ UOk x := by
  unfold ksU at h
  obtain ⟨v0, cs0, rfl, h0, g0⟩ := fitsL_cons h
  obtain ⟨a0, rfl, r0⟩ := fit_u64 h0
  obtain rfl := fitsL_nil g0
  exact ⟨a0, rfl, r0⟩
theorem i64_wf {x : Int} (h : (Lit.int .i64 x).wf = true) : I64 x := by
  have e1 : IntKind.i64.min = -9223372036854775808 := by decide
  have e2 : IntKind.i64.max = 9223372036854775807 := by decide
  simp only [Lit.wf, e1, e2] at h; simp at h; exact h
theorem camp_x {cv zc : List (Int × SL)} {n a : Int} (h : CamP cv n a zc) : ((mget zc n).getD sl0).sx = ((mget cv n).getD sl0).sx ++ [a] := by
  obtain ⟨A, k, rfl⟩ := h; rw [mget_put, if_pos rfl]; rfl
theorem camp_keys {cv zc : List (Int × SL)} {n a : Int} {k : Nat} (h : CamP cv n a zc) (hk : cv.map (·.1) = if k = 0 then [] else [n]) : zc.map (·.1) = if k + 1 = 0 then [] else [n] := by
  obtain ⟨A, c, rfl⟩ := h; rw [mput_keys, hk]; by_cases e : k = 0 <;> simp [e]
theorem put_keys {cv : List (Int × SL)} {n : Int} {s : SL} {m : Nat} (hm : 0 < m) (hk : cv.map (·.1) = if m = 0 then [] else [n]) : (mput cv n s).map (·.1) = if m = 0 then [] else [n] := by
  rw [mput_keys, hk]; simp [show m ≠ 0 by omega]
structure RowIs (rv : List (Int × SR)) (n : Int) (j : Nat) (sm lg : Int) : Prop where
  sp : ((mget rv n).getD sr0).sp = (j : Int)
  sb : IntKind.u64.wrap ((mget rv n).getD sr0).sb = ((mget rv n).getD sr0).sb
  sr : ((mget rv n).getD sr0).sr = 0
  sw : ((mget rv n).getD sr0).sw = sm
  sg : ((mget rv n).getD sr0).sg = lg
  wm : IntKind.u64.wrap sm = sm
  lo : 0 ≤ lg
theorem rowIs_0 (n : Int) : RowIs [] n 0 0 0 := ⟨rfl, (by show IntKind.u64.wrap 0 = 0; decide), rfl, rfl, rfl, by decide, by decide⟩
theorem rowIs_next {rv : List (Int × SR)} {n : Int} {j : Nat} {sm lg x y nb : Int} {xs : List Int} (h : RowIs rv n j sm lg) (hj : j < 1000) (hx : xs[0]? = some x) : RowIs (mput rv n (addR ((mget rv n).getD sr0) (xs.headD 0) y nb false)) n (j + 1) (IntKind.u64.wrap (IntKind.u64.wrap (sm + y) - x)) (imax lg (IntKind.u64.wrap (y - x))) := by
  rw [headD_at hx]
  have e : (mget (mput rv n (addR ((mget rv n).getD sr0) x y nb false)) n).getD sr0 = addR ((mget rv n).getD sr0) x y nb false := by rw [mget_put, if_pos rfl]; rfl
  refine ⟨?_, ?_, ?_, ?_, ?_, ?_, ?_⟩
  · rw [e]; simp only [addR]; rw [h.sp, w64_eq]; omega
  · rw [e]; simp only [addR]; rw [w_w]
  · rw [e]; simp only [addR]; rw [h.sr]; simp
  · rw [e]; simp only [addR]; rw [h.sw, w_add2, w_sub]; congr 1; omega
  · rw [e]; simp only [addR]; rw [h.sg]
  · rw [w_w]
  · rw [imax_eq]; have := h.lo; omega
theorem waits_ok {cv : List (Int × SL)} {n : Int} {cm : List Int} {j : Nat} {x y : Int} (hx : ((mget cv n).getD sl0).sx = cm.drop j) (hc : cm[j]? = some x) (hxy : x ≤ y) (hj : 0 ≤ (j : Int)) : wentE cv n y ((j : Int) + 1) = 0 := by
  have h0 : ((mget cv n).getD sl0).sx[0]? = some x := by rw [hx, List.getElem?_drop]; simpa using hc
  rw [wentE_at h0, if_neg (by omega), if_neg (by omega)]
theorem cut_x {cv : List (Int × SL)} {n : Int} {cm : List Int} {j : Nat} (hx : ((mget cv n).getD sl0).sx = cm.drop j) : ((mget (mput cv n (cutSL ((mget cv n).getD sl0))) n).getD sl0).sx = cm.drop (j + 1) := by
  rw [mget_put, if_pos rfl]; simp only [Option.getD_some, cutSL, hx, List.drop_drop]
theorem one_key {cv : List (Int × SL)} {n : Int} {m : Nat} (hk : cv.map (·.1) = if m = 0 then [] else [n]) : sortK cv = if m = 0 then [] else [n] := by
  unfold sortK; rw [hk]; split <;> simp
theorem one_i64 {cv : List (Int × SL)} {n : Int} {m : Nat} (hn : I64 n) (hk : cv.map (·.1) = if m = 0 then [] else [n]) : ∀ p ∈ cv, I64 p.1 := fun p hp => by
  have h : p.1 ∈ cv.map (·.1) := List.mem_map_of_mem hp
  rw [hk] at h; split at h
  · cases h
  · simp at h; rw [h]; exact hn
theorem one_len {cv : List (Int × SL)} {n : Int} {m : Nat} (hk : cv.map (·.1) = if m = 0 then [] else [n]) : cv.length ≤ 1 := by
  have h1 : cv.length = (if m = 0 then [] else [n]).length := by rw [← hk]; simp
  split at h1 <;> simp only [List.length_nil, List.length_cons] at h1 <;> omega
theorem one_tot {cv : List (Int × SL)} {rv : List (Int × SR)} {n sm lg : Int} {m : Nat} (hk : cv.map (·.1) = if m = 0 then [] else [n]) (hr : RowIs rv n m sm lg) (hb : m ≤ 100) (h0 : m = 0 → (mget rv n).getD sr0 = sr0) : totR rv (sortK cv) (sortK cv).length = (mget rv n).getD sr0 := by
  rw [one_key hk]; by_cases e : m = 0
  · rw [if_pos e, h0 e]; rfl
  · rw [if_neg e]
    show addT sr0 ((mget rv n).getD sr0) = _
    obtain ⟨h1, h2, h3, h4, h5, h6, h7⟩ := hr
    refine sr_ext ?_ ?_ ?_ ?_ ?_
    · simp only [addT, sr0]; rw [Int.zero_add]; rw [show ({ sp := 0, sb := 0, sr := 0, sw := 0, sg := 0 } : SR) = sr0 from rfl, h1, w64_eq]; omega
    · simp only [addT, sr0]; rw [Int.zero_add]; exact h2
    · simp only [addT, sr0]; rw [Int.zero_add]; rw [show ({ sp := 0, sb := 0, sr := 0, sw := 0, sg := 0 } : SR) = sr0 from rfl, h3]; decide
    · simp only [addT, sr0]; rw [Int.zero_add]; rw [show ({ sp := 0, sb := 0, sr := 0, sw := 0, sg := 0 } : SR) = sr0 from rfl, h4, h6]
    · simp only [addT, sr0]; rw [show ({ sp := 0, sb := 0, sr := 0, sw := 0, sg := 0 } : SR) = sr0 from rfl, h5, imax_eq]; omega

set_option maxHeartbeats 4000000 in
set_option maxRecDepth 100000 in
theorem statsWaits_walk (A0 : Option Addr) (cm : List Int) (c0 : Nat) (A1 : Option Addr) (dd : List Int) (c1 : Nat) (n : Int) (hn : I64 n) (w : World) (r0 : arrAt w A0 (V.flat encU cm)) (r1 : arrAt w A1 (V.flat encU dd)) :
    Calls Try.prog 4 #[(.slice A0 cm.length c0), (.slice A1 dd.length c1), (i_ n)] w fun e w' => e = .returned (b_ true) ∧ Fr [] w w' := by
  refine calls_of (args := [(.slice A0 cm.length c0), (.slice A1 dd.length c1), (i_ n)]) (penv [(.slice A0 cm.length c0), (.slice A1 dd.length c1), (i_ n)]) [] [] Try.func4 rfl rfl (look_penv _) (HS.nil w) ?_
  refine A.norm [(0, (.slice A0 cm.length c0)), (1, (.slice A1 dd.length c1)), (2, (i_ n))] [] (by exact ⟨rfl, rfl, rfl, trivial⟩) rfl ?_
  refine A.seq ?_
  refine A.region (A.goA [.p] [(0, (.slice A0 cm.length c0)), (1, (.slice A1 dd.length c1)), (2, (i_ n)), (6, (b_ false))] [] T0 (by kernel_rfl) trivial ?_)
  refine A.tn ?_
  refine A.seq ?_
  refine A.seq ?_
  refine A.region (A.goA [.p, .p, .p, .p, .p, .p, .o, .p, .p, .p, .cl] [(0, (.slice A0 cm.length c0)), (1, (.slice A1 dd.length c1)), (2, (i_ n)), (6, (b_ false)), (24, (b_ (((cm.length : Int) != (dd.length : Int)) || (decide ((cm.length : Int) > 100)))))] [] T0 (by kernel_rfl) trivial ?_)
  refine A.tn ?_
  refine A.cond (E := ((cm.length : Int) != (dd.length : Int)) || (decide ((cm.length : Int) > 100))) rfl (fun e1 => ?_) (fun e1 => ?_)
  · skip
    have p1 := e1; try simp only [decide_eq_true_eq, decide_eq_false_iff_not, beq_iff_eq, beq_eq_false_iff_ne, bne_iff_ne, bne_eq_false_iff_eq, ne_eq, Bool.and_eq_true, Bool.or_eq_true, Bool.or_eq_false_iff, Bool.not_eq_true', Bool.not_eq_false', Int.not_lt, Int.not_le, gt_iff_lt, ge_iff_le, Classical.not_not] at p1
    refine A.seq ?_
    refine A.region (A.goA [.cq (b_ true), .p] [(0, (.slice A0 cm.length c0)), (1, (.slice A1 dd.length c1)), (2, (i_ n)), (6, (b_ true)), (24, (b_ (((cm.length : Int) != (dd.length : Int)) || (decide ((cm.length : Int) > 100)))))] [] (fun κ => κ.call 6 [] (b_ true) ∧ True) (by kernel_rfl) ⟨(fun ww ss => fifteen_spec ww), trivial⟩ ?_)
    refine A.tn ?_
    refine A.ret ?_
    refine A.tr ?_
    refine A.postQ [(b_ true)] (fun aa ww rr ss => ⟨rv_tmp rr rfl, trivial⟩) ?_
    rfl
  · skip
    have p1 := e1; try simp only [decide_eq_true_eq, decide_eq_false_iff_not, beq_iff_eq, beq_eq_false_iff_ne, bne_iff_ne, bne_eq_false_iff_eq, ne_eq, Bool.and_eq_true, Bool.or_eq_true, Bool.or_eq_false_iff, Bool.not_eq_true', Bool.not_eq_false', Int.not_lt, Int.not_le, gt_iff_lt, ge_iff_le, Classical.not_not] at p1
    refine A.skip ?_
    refine A.tn ?_
    refine A.seq ?_
    refine A.region ?_
    refine A.cons (A.callT (some 26) [] [] ((fun zz => match zz with | (bs1, mc2, mr3) => (p_ bs1))) ((fun zz => match zz with | (bs1, mc2, mr3) => True)) ((fun zz => match zz with | (bs1, mc2, mr3) => [blk bs1 [(.map (some mc2)), (.map (some mr3))] 58, mapI (fun k : Int => i_ k) slV mc2 ([] : List (Int × SL)), bagI 27 encU ([] : List (Int × SL)), mapI (fun k : Int => i_ k) (fun y : SR => (.agg #[u_ y.sp, u_ y.sb, u_ y.sr, u_ y.sw, u_ y.sg])) mr3 ([] : List (Int × SR))])) (fun zz => match zz with | (bs1, mc2, mr3) => [blk bs1 [(.map (some mc2)), (.map (some mr3))] 58, mapI (fun k : Int => i_ k) slV mc2 ([] : List (Int × SL)), bagI 27 encU ([] : List (Int × SL)), mapI (fun k : Int => i_ k) (fun y : SR => (.agg #[u_ y.sp, u_ y.sb, u_ y.sr, u_ y.sw, u_ y.sg])) mr3 ([] : List (Int × SR))]) (by kernel_rfl) rfl rfl (fun ww ss hh => st_new ww hh) (fun _ => rfl) ?_)
    rintro ⟨bs1, mc2, mr3⟩ -
    refine A.goA [.p] [(0, (.slice A0 cm.length c0)), (1, (.slice A1 dd.length c1)), (2, (i_ n)), (6, (b_ false)), (24, (b_ (((cm.length : Int) != (dd.length : Int)) || (decide ((cm.length : Int) > 100))))), (7, (p_ bs1))] [] T0 (by kernel_rfl) trivial ?_
    refine A.tn ?_
    refine A.seq ?_
    refine A.region (A.goA [.p] [(0, (.slice A0 cm.length c0)), (1, (.slice A1 dd.length c1)), (2, (i_ n)), (6, (b_ false)), (24, (b_ (((cm.length : Int) != (dd.length : Int)) || (decide ((cm.length : Int) > 100))))), (7, (p_ bs1)), (8, (u_ 0))] [] T0 (by kernel_rfl) trivial ?_)
    refine A.tn ?_
    refine A.seq ?_
    refine A.region (A.goA [.p] [(0, (.slice A0 cm.length c0)), (1, (.slice A1 dd.length c1)), (2, (i_ n)), (6, (b_ false)), (24, (b_ (((cm.length : Int) != (dd.length : Int)) || (decide ((cm.length : Int) > 100))))), (7, (p_ bs1)), (8, (u_ 0)), (9, (u_ 0))] [] T0 (by kernel_rfl) trivial ?_)
    refine A.tn ?_
    refine A.seq ?_
    refine A.seq ?_
    refine A.region (A.goA [.p, .p, .p] [(0, (.slice A0 cm.length c0)), (1, (.slice A1 dd.length c1)), (2, (i_ n)), (6, (b_ false)), (24, (b_ (((cm.length : Int) != (dd.length : Int)) || (decide ((cm.length : Int) > 100))))), (7, (p_ bs1)), (8, (u_ 0)), (9, (u_ 0)), (27, (.slice A0 cm.length c0)), (28, (i_ (cm.length : Int))), (29, (i_ 0))] [] T0 (by kernel_rfl) trivial ?_)
    refine A.tn ?_
    refine A.block ?_
    refine A.loop (fun (zz : Nat × (List (Int × SL))) => match zz with | (k, cv) => [(0, (.slice A0 cm.length c0)), (1, (.slice A1 dd.length c1)), (2, (i_ n)), (7, (p_ bs1)), (8, (u_ 0)), (9, (u_ 0)), (27, (.slice A0 cm.length c0)), (28, (i_ (cm.length : Int))), (29, (i_ (k : Int)))]) (fun (zz : Nat × (List (Int × SL))) => match zz with | (k, cv) => [blk bs1 [(.map (some mc2)), (.map (some mr3))] 58, mapI (fun k : Int => i_ k) slV mc2 cv, bagI 27 encU cv, mapI (fun k : Int => i_ k) (fun y : SR => (.agg #[u_ y.sp, u_ y.sb, u_ y.sr, u_ y.sw, u_ y.sg])) mr3 ([] : List (Int × SR))]) (fun (zz : Nat × (List (Int × SL))) => match zz with | (k, cv) => (k ≤ cm.length) ∧ (((mget cv n).getD sl0).sx = cm.take k) ∧ (cv.map (·.1) = if k = 0 then [] else [n]) ∧ (∀ (i : Nat) a b, i < k → cm[i]? = some a → dd[i]? = some b → a ≤ b)) (fun (zz : Nat × (List (Int × SL))) => match zz with | (k, cv) => cm.length - k) (0, ([] : List (Int × SL))) ⟨(by first | assumption | omega | (simp_all; done) | (simp_all; omega) | grind), (by rfl), (by rfl), (by intro i a b hi; omega)⟩ ?_ ?_
    · exact A.hereK [0, 0, 0, 0] (by exact ⟨rfl, rfl, rfl, rfl, rfl, rfl, rfl, rfl, rfl, trivial⟩) (by kernel_rfl)
    · rintro ⟨k, cv⟩ ⟨hk, hx, hq, hd⟩
      refine A.norm [(0, (.slice A0 cm.length c0)), (1, (.slice A1 dd.length c1)), (2, (i_ n)), (7, (p_ bs1)), (8, (u_ 0)), (9, (u_ 0)), (27, (.slice A0 cm.length c0)), (28, (i_ (cm.length : Int))), (29, (i_ (k : Int)))] [blk bs1 [(.map (some mc2)), (.map (some mr3))] 58, mapI (fun k : Int => i_ k) slV mc2 cv, bagI 27 encU cv, mapI (fun k : Int => i_ k) (fun y : SR => (.agg #[u_ y.sp, u_ y.sb, u_ y.sr, u_ y.sw, u_ y.sg])) mr3 ([] : List (Int × SR))] (by exact ⟨rfl, rfl, rfl, rfl, rfl, rfl, rfl, rfl, rfl, trivial⟩) rfl ?_
      refine A.seq ?_
      refine A.region (A.goA [.p] [(0, (.slice A0 cm.length c0)), (1, (.slice A1 dd.length c1)), (2, (i_ n)), (7, (p_ bs1)), (8, (u_ 0)), (9, (u_ 0)), (27, (.slice A0 cm.length c0)), (28, (i_ (cm.length : Int))), (29, (i_ (k : Int))), (30, (b_ (decide ((k : Int) < (cm.length : Int)))))] [] T0 (by kernel_rfl) trivial ?_)
      refine A.tn ?_
      refine A.seq ?_
      refine A.cond (E := decide ((k : Int) < (cm.length : Int))) rfl (fun e3 => ?_) (fun e3 => ?_)
      · skip
        have p3 := of_decide_eq_true e3
        refine A.skip ?_
        refine A.tn ?_
        refine A.seq ?_
        refine A.block ?_
        refine A.seq ?_
        refine A.region (A.goP [.p, .ix] [(0, (.slice A0 cm.length c0)), (1, (.slice A1 dd.length c1)), (2, (i_ n)), (7, (p_ bs1)), (8, (u_ 0)), (9, (u_ 0)), (27, (.slice A0 cm.length c0)), (28, (i_ (cm.length : Int))), (29, (i_ (k : Int))), (30, (b_ (decide ((k : Int) < (cm.length : Int))))), (31, (i_ (k : Int))), (32, (.pointer (some ((at0 A0).add (k * 1)))))] [] (fun κ => κ.ix A0 cm.length (k : Int) ∧ True) (by kernel_rfl) ⟨(ixOf encU_len (by decide) (rd_old r0 (by simp [feet])) (by first | omega | (simp; omega) | (simp; done))), trivial⟩ ?_)
        obtain ⟨x4, hx4⟩ : ∃ x, (cm)[k]? = some x := ⟨_, List.getElem?_eq_getElem (by omega)⟩
        refine A.goA [.rd [(u_ x4)], .p, .p] [(0, (.slice A0 cm.length c0)), (1, (.slice A1 dd.length c1)), (2, (i_ n)), (7, (p_ bs1)), (8, (u_ 0)), (9, (u_ 0)), (27, (.slice A0 cm.length c0)), (28, (i_ (cm.length : Int))), (29, (i_ (k : Int))), (30, (b_ (decide ((k : Int) < (cm.length : Int))))), (10, (i_ (k : Int))), (11, (u_ x4))] [] (fun κ => κ.rd ((at0 A0).add (k * 1)) [(u_ x4)] ∧ True) (by kernel_rfl) ⟨(reads_at0 (vs := [(u_ x4)]) encU_len (rd_old r0 (by simp [feet])) hx4 (by simp) rfl), trivial⟩ ?_
        refine A.tn ?_
        refine A.seq ?_
        refine A.seq ?_
        refine A.region (A.goP [.p, .p, .ix] [(0, (.slice A0 cm.length c0)), (1, (.slice A1 dd.length c1)), (2, (i_ n)), (7, (p_ bs1)), (8, (u_ 0)), (9, (u_ 0)), (27, (.slice A0 cm.length c0)), (28, (i_ (cm.length : Int))), (29, (i_ (k : Int))), (30, (b_ (decide ((k : Int) < (cm.length : Int))))), (10, (i_ (k : Int))), (11, (u_ x4)), (36, (.pointer (some ((at0 A1).add (k * 1)))))] [] (fun κ => κ.ix A1 dd.length (k : Int) ∧ True) (by kernel_rfl) ⟨(ixOf encU_len (by decide) (rd_old r1 (by simp [feet])) (by first | omega | (simp; omega) | (simp; done))), trivial⟩ ?_)
        obtain ⟨x5, hx5⟩ : ∃ x, (dd)[k]? = some x := ⟨_, List.getElem?_eq_getElem (by omega)⟩
        refine A.goA [.rd [(u_ x5)], .p, .p] [(0, (.slice A0 cm.length c0)), (1, (.slice A1 dd.length c1)), (2, (i_ n)), (7, (p_ bs1)), (8, (u_ 0)), (9, (u_ 0)), (27, (.slice A0 cm.length c0)), (28, (i_ (cm.length : Int))), (29, (i_ (k : Int))), (30, (b_ (decide ((k : Int) < (cm.length : Int))))), (10, (i_ (k : Int))), (11, (u_ x4)), (39, (b_ (decide (x5 < x4))))] [] (fun κ => κ.rd ((at0 A1).add (k * 1)) [(u_ x5)] ∧ True) (by kernel_rfl) ⟨(reads_at0 (vs := [(u_ x5)]) encU_len (rd_old r1 (by simp [feet])) hx5 (by simp) rfl), trivial⟩ ?_
        refine A.tn ?_
        refine A.cond (E := decide (x5 < x4)) rfl (fun e4 => ?_) (fun e4 => ?_)
        · skip
          have p4 := of_decide_eq_true e4
          refine A.seq ?_
          refine A.region (A.goA [.cq (b_ true), .p] [(0, (.slice A0 cm.length c0)), (1, (.slice A1 dd.length c1)), (2, (i_ n)), (7, (p_ bs1)), (8, (u_ 0)), (9, (u_ 0)), (27, (.slice A0 cm.length c0)), (28, (i_ (cm.length : Int))), (29, (i_ (k : Int))), (30, (b_ (decide ((k : Int) < (cm.length : Int))))), (10, (i_ (k : Int))), (11, (u_ x4)), (39, (b_ (decide (x5 < x4)))), (6, (b_ true))] [] (fun κ => κ.call 6 [] (b_ true) ∧ True) (by kernel_rfl) ⟨(fun ww ss => fifteen_spec ww), trivial⟩ ?_)
          refine A.tn ?_
          refine A.ret ?_
          refine A.tr ?_
          refine A.br ?_
          refine A.tr ?_
          refine A.tr ?_
          refine A.br ?_
          refine A.tr ?_
          refine A.postQ [(b_ true)] (fun aa ww rr ss => ⟨rv_tmp rr rfl, trivial⟩) ?_
          rfl
        · skip
          have p4 := of_decide_eq_false e4
          refine A.skip ?_
          refine A.tn ?_
          refine A.seq ?_
          refine A.region (A.goP [.p, .p, .p] [(0, (.slice A0 cm.length c0)), (1, (.slice A1 dd.length c1)), (2, (i_ n)), (7, (p_ bs1)), (8, (u_ 0)), (9, (u_ 0)), (27, (.slice A0 cm.length c0)), (28, (i_ (cm.length : Int))), (29, (i_ (k : Int))), (30, (b_ (decide ((k : Int) < (cm.length : Int))))), (10, (i_ (k : Int))), (11, (u_ x4)), (39, (b_ (decide (x5 < x4)))), (41, (p_ bs1)), (42, (i_ n)), (43, (u_ x4))] [] T0 (by kernel_rfl) trivial ?_)
          refine A.cons (A.callT (some 44) [(p_ bs1), (i_ n), (u_ x4)] [0, 0, 0, 0] ((fun zc6 => (i_ 0))) ((fun zc6 => CamP cv n x4 zc6)) ((fun zc6 => [blk bs1 [(.map (some mc2)), (.map (some mr3))] 58, mapI (fun k : Int => i_ k) slV mc2 zc6, bagI 27 encU zc6, mapI (fun k : Int => i_ k) (fun y : SR => (.agg #[u_ y.sp, u_ y.sb, u_ y.sr, u_ y.sw, u_ y.sg])) mr3 ([] : List (Int × SR))])) (fun zc6 => [blk bs1 [(.map (some mc2)), (.map (some mr3))] 58, mapI (fun k : Int => i_ k) slV mc2 zc6, bagI 27 encU zc6, mapI (fun k : Int => i_ k) (fun y : SR => (.agg #[u_ y.sp, u_ y.sb, u_ y.sr, u_ y.sw, u_ y.sg])) mr3 ([] : List (Int × SR))]) (by kernel_rfl) rfl rfl (fun ww ss hh => st_came bs1 mc2 mr3 cv ([] : List (Int × SR)) n x4 (by first | assumption | omega | (rw [hx]; simp; omega) | exact one_i64 hn hq2 | (have h_ := one_len hq2; omega)) ww hh) (fun _ => rfl) ?_)
          rintro zc6 hz5
          refine A.goA [.p] [(0, (.slice A0 cm.length c0)), (1, (.slice A1 dd.length c1)), (2, (i_ n)), (7, (p_ bs1)), (8, (u_ 0)), (9, (u_ 0)), (27, (.slice A0 cm.length c0)), (28, (i_ (cm.length : Int))), (29, (i_ (k : Int))), (30, (b_ (decide ((k : Int) < (cm.length : Int))))), (10, (i_ (k : Int))), (11, (u_ x4)), (39, (b_ (decide (x5 < x4)))), (45, (b_ false))] [] T0 (by kernel_rfl) trivial ?_
          refine A.tn ?_
          refine A.cond_f rfl ?_
          refine A.skip ?_
          refine A.bn ?_
          refine A.tn ?_
          refine A.region (A.goA [.w ((k : Int) + 1), .p] [(0, (.slice A0 cm.length c0)), (1, (.slice A1 dd.length c1)), (2, (i_ n)), (7, (p_ bs1)), (8, (u_ 0)), (9, (u_ 0)), (27, (.slice A0 cm.length c0)), (28, (i_ (cm.length : Int))), (29, (i_ ((k : Int) + 1))), (30, (b_ (decide ((k : Int) < (cm.length : Int))))), (10, (i_ (k : Int))), (11, (u_ x4)), (39, (b_ (decide (x5 < x4)))), (45, (b_ false))] [] (fun κ => (IntKind.i64.wrap ((k : Int) + 1) = ((k : Int) + 1)) ∧ True) (by kernel_rfl) ⟨(wrap_i64 (e := (k : Int) + 1) (by constructor <;> omega)), trivial⟩ ?_)
          refine A.tn ?_
          refine A.next (k + 1, zc6) ⟨(by first | assumption | omega | (simp_all; done) | (simp_all; omega) | grind), (by (rw [camp_x (by assumption), hx, take_snoc (by assumption)])), (by exact camp_keys (by assumption) hq), (by (intro i a b hi ha hb; rcases Nat.lt_or_ge i k with g | g; exact hd i a b g ha hb; (have e_ : i = k := by omega); subst e_; simp_all))⟩ (by first | omega | (simp; omega) | (simp_all; omega)) ?_
          exact A.hereK [0, 0, 0, 0] (by exact ⟨rfl, rfl, rfl, rfl, rfl, rfl, rfl, rfl, rfl, trivial⟩) (by kernel_rfl)
      · skip
        have p3 := of_decide_eq_false e3
        refine A.exit ?_
        refine A.te ?_
        refine A.te ?_
        refine A.bh ?_
        refine A.tn ?_
        refine A.seq ?_
        refine A.seq ?_
        refine A.region (A.goA [.p, .p, .p] [(0, (.slice A0 cm.length c0)), (1, (.slice A1 dd.length c1)), (2, (i_ n)), (7, (p_ bs1)), (8, (u_ 0)), (9, (u_ 0)), (27, (.slice A0 cm.length c0)), (28, (i_ (cm.length : Int))), (29, (i_ (k : Int))), (30, (b_ (decide ((k : Int) < (cm.length : Int))))), (47, (.slice A1 dd.length c1)), (48, (i_ (dd.length : Int))), (49, (i_ 0))] [] T0 (by kernel_rfl) trivial ?_)
        refine A.tn ?_
        refine A.block ?_
        have hkl : k = cm.length := by omega
        refine A.loop (fun (zz : Nat × (List (Int × SL)) × (List (Int × SR)) × Int × Int) => match zz with | (j, cv2, rv2, sm, lg) => [(0, (.slice A0 cm.length c0)), (2, (i_ n)), (7, (p_ bs1)), (47, (.slice A1 dd.length c1)), (48, (i_ (dd.length : Int))), (49, (i_ (j : Int))), (8, (u_ sm)), (9, (u_ lg))]) (fun (zz : Nat × (List (Int × SL)) × (List (Int × SR)) × Int × Int) => match zz with | (j, cv2, rv2, sm, lg) => [blk bs1 [(.map (some mc2)), (.map (some mr3))] 58, mapI (fun k : Int => i_ k) slV mc2 cv2, bagI 27 encU cv2, mapI (fun k : Int => i_ k) (fun y : SR => (.agg #[u_ y.sp, u_ y.sb, u_ y.sr, u_ y.sw, u_ y.sg])) mr3 rv2]) (fun (zz : Nat × (List (Int × SL)) × (List (Int × SR)) × Int × Int) => match zz with | (j, cv2, rv2, sm, lg) => (j ≤ dd.length) ∧ (((mget cv2 n).getD sl0).sx = cm.drop j) ∧ (cv2.map (·.1) = if cm.length = 0 then [] else [n]) ∧ (RowIs rv2 n j sm lg) ∧ (j = 0 → (mget rv2 n).getD sr0 = sr0)) (fun (zz : Nat × (List (Int × SL)) × (List (Int × SR)) × Int × Int) => match zz with | (j, cv2, rv2, sm, lg) => dd.length - j) (0, cv, ([] : List (Int × SR)), 0, 0) ⟨(by first | assumption | omega | (simp_all; done) | (simp_all; omega) | grind), (by (rw [hx, hkl]; simp)), (by (rw [hq, hkl])), (by exact rowIs_0 n), (by intro _; rfl)⟩ ?_ ?_
        · exact A.hereK [0, 0, 0, 0] (by exact ⟨rfl, rfl, rfl, rfl, rfl, rfl, rfl, rfl, trivial⟩) (by kernel_rfl)
        · rintro ⟨j, cv2, rv2, sm, lg⟩ ⟨hj, hx2, hq2, hr, h0⟩
          refine A.norm [(0, (.slice A0 cm.length c0)), (2, (i_ n)), (7, (p_ bs1)), (47, (.slice A1 dd.length c1)), (48, (i_ (dd.length : Int))), (49, (i_ (j : Int))), (8, (u_ sm)), (9, (u_ lg))] [blk bs1 [(.map (some mc2)), (.map (some mr3))] 58, mapI (fun k : Int => i_ k) slV mc2 cv2, bagI 27 encU cv2, mapI (fun k : Int => i_ k) (fun y : SR => (.agg #[u_ y.sp, u_ y.sb, u_ y.sr, u_ y.sw, u_ y.sg])) mr3 rv2] (by exact ⟨rfl, rfl, rfl, rfl, rfl, rfl, rfl, rfl, trivial⟩) rfl ?_
          refine A.seq ?_
          refine A.region (A.goA [.p] [(0, (.slice A0 cm.length c0)), (2, (i_ n)), (7, (p_ bs1)), (47, (.slice A1 dd.length c1)), (48, (i_ (dd.length : Int))), (49, (i_ (j : Int))), (8, (u_ sm)), (9, (u_ lg)), (50, (b_ (decide ((j : Int) < (dd.length : Int)))))] [] T0 (by kernel_rfl) trivial ?_)
          refine A.tn ?_
          refine A.seq ?_
          refine A.cond (E := decide ((j : Int) < (dd.length : Int))) rfl (fun e6 => ?_) (fun e6 => ?_)
          · skip
            have p6 := of_decide_eq_true e6
            refine A.skip ?_
            refine A.tn ?_
            refine A.seq ?_
            refine A.block ?_
            refine A.seq ?_
            refine A.region (A.goP [.p, .ix] [(0, (.slice A0 cm.length c0)), (2, (i_ n)), (7, (p_ bs1)), (47, (.slice A1 dd.length c1)), (48, (i_ (dd.length : Int))), (49, (i_ (j : Int))), (8, (u_ sm)), (9, (u_ lg)), (50, (b_ (decide ((j : Int) < (dd.length : Int))))), (51, (i_ (j : Int))), (52, (.pointer (some ((at0 A1).add (j * 1)))))] [] (fun κ => κ.ix A1 dd.length (j : Int) ∧ True) (by kernel_rfl) ⟨(ixOf encU_len (by decide) (rd_old r1 (by simp [feet])) (by first | omega | (simp; omega) | (simp; done))), trivial⟩ ?_)
            obtain ⟨x7, hx7⟩ : ∃ x, (dd)[j]? = some x := ⟨_, List.getElem?_eq_getElem (by omega)⟩
            refine A.goA [.rd [(u_ x7)], .p, .p] [(0, (.slice A0 cm.length c0)), (2, (i_ n)), (7, (p_ bs1)), (47, (.slice A1 dd.length c1)), (48, (i_ (dd.length : Int))), (49, (i_ (j : Int))), (8, (u_ sm)), (9, (u_ lg)), (50, (b_ (decide ((j : Int) < (dd.length : Int))))), (12, (i_ (j : Int))), (13, (u_ x7))] [] (fun κ => κ.rd ((at0 A1).add (j * 1)) [(u_ x7)] ∧ True) (by kernel_rfl) ⟨(reads_at0 (vs := [(u_ x7)]) encU_len (rd_old r1 (by simp [feet])) hx7 (by simp) rfl), trivial⟩ ?_
            refine A.tn ?_
            refine A.seq ?_
            refine A.seq ?_
            obtain ⟨y8, hy8⟩ : ∃ x, cm[j]? = some x := ⟨_, List.getElem?_eq_getElem (by omega)⟩
            have hw : wentE cv2 n x7 ((j : Int) + 1) = 0 := waits_ok hx2 hy8 (hd j _ _ (by omega) hy8 (by assumption)) (by omega)
            refine A.region (A.goP [.p, .p, .p, .p, .w ((j : Int) + 1)] [(0, (.slice A0 cm.length c0)), (2, (i_ n)), (7, (p_ bs1)), (47, (.slice A1 dd.length c1)), (48, (i_ (dd.length : Int))), (49, (i_ (j : Int))), (8, (u_ sm)), (9, (u_ lg)), (50, (b_ (decide ((j : Int) < (dd.length : Int))))), (12, (i_ (j : Int))), (13, (u_ x7)), (54, (p_ bs1)), (55, (i_ n)), (56, (u_ x7)), (58, (i_ ((j : Int) + 1)))] [] (fun κ => (IntKind.i64.wrap ((j : Int) + 1) = ((j : Int) + 1)) ∧ True) (by kernel_rfl) ⟨(wrap_i64 (e := (j : Int) + 1) (by constructor <;> omega)), trivial⟩ ?_)
            refine A.cons (A.callT (some 59) [(p_ bs1), (i_ n), (u_ x7), (i_ ((j : Int) + 1)), (b_ false)] [0, 0, 0, 0] ((fun _ => (i_ 0))) ((fun _ => True)) ((fun _ => [blk bs1 [(.map (some mc2)), (.map (some mr3))] 58, mapI (fun k : Int => i_ k) slV mc2 (mput cv2 n (cutSL ((mget cv2 n).getD sl0))), bagI 27 encU (mput cv2 n (cutSL ((mget cv2 n).getD sl0))), mapI (fun k : Int => i_ k) (fun y : SR => (.agg #[u_ y.sp, u_ y.sb, u_ y.sr, u_ y.sw, u_ y.sg])) mr3 (mput rv2 n (addR ((mget rv2 n).getD sr0) (((mget cv2 n).getD sl0).sx.headD 0) x7 ((j : Int) + 1) false))])) (fun _ => [blk bs1 [(.map (some mc2)), (.map (some mr3))] 58, mapI (fun k : Int => i_ k) slV mc2 (mput cv2 n (cutSL ((mget cv2 n).getD sl0))), bagI 27 encU (mput cv2 n (cutSL ((mget cv2 n).getD sl0))), mapI (fun k : Int => i_ k) (fun y : SR => (.agg #[u_ y.sp, u_ y.sb, u_ y.sr, u_ y.sw, u_ y.sg])) mr3 (mput rv2 n (addR ((mget rv2 n).getD sr0) (((mget cv2 n).getD sl0).sx.headD 0) x7 ((j : Int) + 1) false))]) (by kernel_rfl) rfl rfl (fun ww ss hh => st_went bs1 mc2 mr3 cv2 rv2 n x7 ((j : Int) + 1) false (by first | assumption | omega | (rw [hx]; simp; omega) | exact one_i64 hn hq2 | (have h_ := one_len hq2; omega)) ww hh) (fun _ => rfl) ?_)
            rintro ⟨⟩ -
            refine A.goA [.p] [(0, (.slice A0 cm.length c0)), (2, (i_ n)), (7, (p_ bs1)), (47, (.slice A1 dd.length c1)), (48, (i_ (dd.length : Int))), (49, (i_ (j : Int))), (8, (u_ sm)), (9, (u_ lg)), (50, (b_ (decide ((j : Int) < (dd.length : Int))))), (12, (i_ (j : Int))), (13, (u_ x7)), (60, (b_ false))] [] T0 (by kernel_rfl) trivial ?_
            refine A.tn ?_
            refine A.cond_f rfl ?_
            refine A.skip ?_
            refine A.tn ?_
            refine A.seq ?_
            refine A.region (A.goA [.p, .p, .p, .p, .p, .ix, .rd [(u_ y8)], .p, .p] [(0, (.slice A0 cm.length c0)), (2, (i_ n)), (7, (p_ bs1)), (47, (.slice A1 dd.length c1)), (48, (i_ (dd.length : Int))), (49, (i_ (j : Int))), (8, (u_ (IntKind.u64.wrap ((IntKind.u64.wrap (sm + x7)) - y8)))), (9, (u_ lg)), (50, (b_ (decide ((j : Int) < (dd.length : Int))))), (12, (i_ (j : Int))), (13, (u_ x7)), (60, (b_ false))] [] (fun κ => κ.ix A0 cm.length (j : Int) ∧ κ.rd ((at0 A0).add (j * 1)) [(u_ y8)] ∧ True) (by kernel_rfl) ⟨(ixOf encU_len (by decide) (rd_old r0 (by simp [feet])) (by first | omega | (simp; omega) | (simp; done))), (reads_at0 (vs := [(u_ y8)]) encU_len (rd_old r0 (by simp [feet])) hy8 (by simp) rfl), trivial⟩ ?_)
            refine A.tn ?_
            refine A.region (A.goA [.p, .p, .p, .p, .ix, .rd [(u_ y8)], .p, .p, .p] [(0, (.slice A0 cm.length c0)), (2, (i_ n)), (7, (p_ bs1)), (47, (.slice A1 dd.length c1)), (48, (i_ (dd.length : Int))), (49, (i_ (j : Int))), (8, (u_ (IntKind.u64.wrap ((IntKind.u64.wrap (sm + x7)) - y8)))), (9, (u_ (imax lg (IntKind.u64.wrap (x7 - y8))))), (50, (b_ (decide ((j : Int) < (dd.length : Int))))), (12, (i_ (j : Int))), (13, (u_ x7)), (60, (b_ false))] [] (fun κ => κ.ix A0 cm.length (j : Int) ∧ κ.rd ((at0 A0).add (j * 1)) [(u_ y8)] ∧ True) (by kernel_rfl) ⟨(ixOf encU_len (by decide) (rd_old r0 (by simp [feet])) (by first | omega | (simp; omega) | (simp; done))), (reads_at0 (vs := [(u_ y8)]) encU_len (rd_old r0 (by simp [feet])) hy8 (by simp) rfl), trivial⟩ ?_)
            refine A.bn ?_
            refine A.tn ?_
            refine A.region (A.goA [.w ((j : Int) + 1), .p] [(0, (.slice A0 cm.length c0)), (2, (i_ n)), (7, (p_ bs1)), (47, (.slice A1 dd.length c1)), (48, (i_ (dd.length : Int))), (49, (i_ ((j : Int) + 1))), (8, (u_ (IntKind.u64.wrap ((IntKind.u64.wrap (sm + x7)) - y8)))), (9, (u_ (imax lg (IntKind.u64.wrap (x7 - y8))))), (50, (b_ (decide ((j : Int) < (dd.length : Int))))), (12, (i_ (j : Int))), (13, (u_ x7)), (60, (b_ false))] [] (fun κ => (IntKind.i64.wrap ((j : Int) + 1) = ((j : Int) + 1)) ∧ True) (by kernel_rfl) ⟨(wrap_i64 (e := (j : Int) + 1) (by constructor <;> omega)), trivial⟩ ?_)
            refine A.tn ?_
            refine A.next (j + 1, (mput cv2 n (cutSL ((mget cv2 n).getD sl0))), (mput rv2 n (addR ((mget rv2 n).getD sr0) (((mget cv2 n).getD sl0).sx.headD 0) x7 ((j : Int) + 1) false)), IntKind.u64.wrap ((IntKind.u64.wrap (sm + x7)) - y8), imax lg (IntKind.u64.wrap (x7 - y8))) ⟨(by first | assumption | omega | (simp_all; done) | (simp_all; omega) | grind), (by exact cut_x hx2), (by exact put_keys (by omega) hq2), (by exact rowIs_next hr (by omega) (by rw [hx2, List.getElem?_drop]; simpa using (by assumption : cm[j]? = some _))), (by intro h_; omega)⟩ (by first | omega | (simp; omega) | (simp_all; omega)) ?_
            exact A.hereK [0, 0, 0, 0] (by exact ⟨rfl, rfl, rfl, rfl, rfl, rfl, rfl, rfl, trivial⟩) (by kernel_rfl)
          · skip
            have p6 := of_decide_eq_false e6
            refine A.exit ?_
            refine A.te ?_
            refine A.te ?_
            refine A.bh ?_
            refine A.tn ?_
            refine A.seq ?_
            refine A.region (A.goA1 [.p, .p, .cq (.agg #[(u_ (((mget rv2 n).getD sr0).sp)), (u_ (((mget rv2 n).getD sr0).sb)), (u_ (((mget rv2 n).getD sr0).sr)), (u_ (((mget rv2 n).getD sr0).sw)), (u_ (((mget rv2 n).getD sr0).sg))]), .al, .st 4] [0, 2, 7, 47, 48, 49, 8, 9, 50, 14] (fun b9 => [(0, (.slice A0 cm.length c0)), (2, (i_ n)), (7, (p_ bs1)), (47, (.slice A1 dd.length c1)), (48, (i_ (dd.length : Int))), (49, (i_ (j : Int))), (8, (u_ sm)), (9, (u_ lg)), (50, (b_ (decide ((j : Int) < (dd.length : Int))))), (14, (p_ b9))]) (fun b9 => [blk bs1 [(.map (some mc2)), (.map (some mr3))] 58, mapI (fun k : Int => i_ k) slV mc2 cv2, bagI 27 encU cv2, mapI (fun k : Int => i_ k) (fun y : SR => (.agg #[u_ y.sp, u_ y.sb, u_ y.sr, u_ y.sw, u_ y.sg])) mr3 rv2, blk b9 [(u_ (((mget rv2 n).getD sr0).sp)), (u_ (((mget rv2 n).getD sr0).sb)), (u_ (((mget rv2 n).getD sr0).sr)), (u_ (((mget rv2 n).getD sr0).sw)), (u_ (((mget rv2 n).getD sr0).sg))] 39]) (fun b9 => [b9]) (fun _ => (fun κ => κ.call 13 [(p_ bs1), (i_ n)] (.agg #[(u_ (((mget rv2 n).getD sr0).sp)), (u_ (((mget rv2 n).getD sr0).sb)), (u_ (((mget rv2 n).getD sr0).sr)), (u_ (((mget rv2 n).getD sr0).sw)), (u_ (((mget rv2 n).getD sr0).sg))]) ∧ True)) (fun _ => by kernel_rfl) (fun b9 => ⟨(fun ww ss => st_row bs1 mc2 mr3 rv2 n ww (ss.mem (i := 0) rfl) (ss.mem (i := 3) rfl)), trivial⟩) ?_)
            intro b9
            refine A.tn ?_
            refine A.seq ?_
            refine A.drawA [.p, .ld 4, .p, .p, .p, .o, .p, .ld 4, .p, .p, .cl, .p, .o, .p, .ld 4, .p, .p, .w (cm.length : Int), .p, .cl, .p, .o, .p, .ld 4, .p, .cl, .p, .o, .p, .cq (.agg #[(u_ ((totR rv2 (sortK cv2) (sortK cv2).length).sp)), (u_ ((totR rv2 (sortK cv2) (sortK cv2).length).sb)), (u_ ((totR rv2 (sortK cv2) (sortK cv2).length).sr)), (u_ ((totR rv2 (sortK cv2) (sortK cv2).length).sw)), (u_ ((totR rv2 (sortK cv2) (sortK cv2).length).sg))]), .ld 4, .eq, .cl, .p, .o, .p, .p, .cq (i_ (((mget cv2 n).getD sl0).sx.length : Int)), .p, .cl, .p, .o, .cq (b_ true), .cl, .p] [0, 1, 2, 3, 4, 5, 6, 7, 8, 9, 10, 11, 12, 13, 14, 15, 16, 17, 18, 19, 20, 21, 22, 23, 24, 25, 26, 27, 28, 29, 30, 31, 32, 33, 34, 35, 36, 37, 38] [(0, (.slice A0 cm.length c0)), (2, (i_ n)), (7, (p_ bs1)), (47, (.slice A1 dd.length c1)), (48, (i_ (dd.length : Int))), (49, (i_ (j : Int))), (8, (u_ sm)), (9, (u_ lg)), (50, (b_ (decide ((j : Int) < (dd.length : Int))))), (14, (p_ b9)), (6, (b_ ((((((((((mget rv2 n).getD sr0).sw) == sm) && ((((mget rv2 n).getD sr0).sg) == lg)) && ((((mget rv2 n).getD sr0).sp) == (cm.length : Int))) && ((((mget rv2 n).getD sr0).sr) == 0)) && ((((totR rv2 (sortK cv2) (sortK cv2).length).sp) == (((mget rv2 n).getD sr0).sp)) && ((((totR rv2 (sortK cv2) (sortK cv2).length).sb) == (((mget rv2 n).getD sr0).sb)) && ((((totR rv2 (sortK cv2) (sortK cv2).length).sr) == (((mget rv2 n).getD sr0).sr)) && ((((totR rv2 (sortK cv2) (sortK cv2).length).sw) == (((mget rv2 n).getD sr0).sw)) && (((totR rv2 (sortK cv2) (sortK cv2).length).sg) == (((mget rv2 n).getD sr0).sg))))))) && ((((mget cv2 n).getD sl0).sx.length : Int) == 0)) && true)))] [b9, b9, b9, b9, b9] (fun κ => ((true && ((((((mget rv2 n).getD sr0).sw) == sm) && ((((mget rv2 n).getD sr0).sg) == lg)) == true)) = true → (IntKind.u64.wrap (cm.length : Int) = (cm.length : Int))) ∧ ((true && ((((((((mget rv2 n).getD sr0).sw) == sm) && ((((mget rv2 n).getD sr0).sg) == lg)) && ((((mget rv2 n).getD sr0).sp) == (cm.length : Int))) && ((((mget rv2 n).getD sr0).sr) == 0)) == true)) = true → κ.call 18 [(p_ bs1)] (.agg #[(u_ ((totR rv2 (sortK cv2) (sortK cv2).length).sp)), (u_ ((totR rv2 (sortK cv2) (sortK cv2).length).sb)), (u_ ((totR rv2 (sortK cv2) (sortK cv2).length).sr)), (u_ ((totR rv2 (sortK cv2) (sortK cv2).length).sw)), (u_ ((totR rv2 (sortK cv2) (sortK cv2).length).sg))])) ∧ ((true && (((((((((mget rv2 n).getD sr0).sw) == sm) && ((((mget rv2 n).getD sr0).sg) == lg)) && ((((mget rv2 n).getD sr0).sp) == (cm.length : Int))) && ((((mget rv2 n).getD sr0).sr) == 0)) && ((((totR rv2 (sortK cv2) (sortK cv2).length).sp) == (((mget rv2 n).getD sr0).sp)) && ((((totR rv2 (sortK cv2) (sortK cv2).length).sb) == (((mget rv2 n).getD sr0).sb)) && ((((totR rv2 (sortK cv2) (sortK cv2).length).sr) == (((mget rv2 n).getD sr0).sr)) && ((((totR rv2 (sortK cv2) (sortK cv2).length).sw) == (((mget rv2 n).getD sr0).sw)) && (((totR rv2 (sortK cv2) (sortK cv2).length).sg) == (((mget rv2 n).getD sr0).sg))))))) == true)) = true → κ.call 16 [(p_ bs1), (i_ n)] (i_ (((mget cv2 n).getD sl0).sx.length : Int))) ∧ ((true && ((((((((((mget rv2 n).getD sr0).sw) == sm) && ((((mget rv2 n).getD sr0).sg) == lg)) && ((((mget rv2 n).getD sr0).sp) == (cm.length : Int))) && ((((mget rv2 n).getD sr0).sr) == 0)) && ((((totR rv2 (sortK cv2) (sortK cv2).length).sp) == (((mget rv2 n).getD sr0).sp)) && ((((totR rv2 (sortK cv2) (sortK cv2).length).sb) == (((mget rv2 n).getD sr0).sb)) && ((((totR rv2 (sortK cv2) (sortK cv2).length).sr) == (((mget rv2 n).getD sr0).sr)) && ((((totR rv2 (sortK cv2) (sortK cv2).length).sw) == (((mget rv2 n).getD sr0).sw)) && (((totR rv2 (sortK cv2) (sortK cv2).length).sg) == (((mget rv2 n).getD sr0).sg))))))) && ((((mget cv2 n).getD sl0).sx.length : Int) == 0)) == true)) = true → κ.call 6 [] (b_ true)) ∧ True) (by kernel_rfl) (by kernel_rfl) ⟨(fun h_ => (wrap_u64 (e := (cm.length : Int)) (by constructor <;> omega))), (fun h_ => (fun ww ss => st_tot bs1 mc2 mr3 cv2 rv2 (by first | assumption | omega | (rw [hx]; simp; omega) | exact one_i64 hn hq2 | (have h_ := one_len hq2; omega)) (by first | assumption | omega | (rw [hx]; simp; omega) | exact one_i64 hn hq2 | (have h_ := one_len hq2; omega)) ww (ss.mem (i := 0) rfl) (ss.mem (i := 1) rfl) (ss.mem (i := 3) rfl))), (fun h_ => (fun ww ss => st_wait bs1 mc2 mr3 cv2 n ww (ss.mem (i := 0) rfl) (ss.mem (i := 1) rfl))), (fun h_ => (fun ww ss => fifteen_spec ww)), trivial⟩ ?_
            refine A.tn ?_
            refine A.ret ?_
            refine A.postQ [(b_ ((((((((((mget rv2 n).getD sr0).sw) == sm) && ((((mget rv2 n).getD sr0).sg) == lg)) && ((((mget rv2 n).getD sr0).sp) == (cm.length : Int))) && ((((mget rv2 n).getD sr0).sr) == 0)) && ((((totR rv2 (sortK cv2) (sortK cv2).length).sp) == (((mget rv2 n).getD sr0).sp)) && ((((totR rv2 (sortK cv2) (sortK cv2).length).sb) == (((mget rv2 n).getD sr0).sb)) && ((((totR rv2 (sortK cv2) (sortK cv2).length).sr) == (((mget rv2 n).getD sr0).sr)) && ((((totR rv2 (sortK cv2) (sortK cv2).length).sw) == (((mget rv2 n).getD sr0).sw)) && (((totR rv2 (sortK cv2) (sortK cv2).length).sg) == (((mget rv2 n).getD sr0).sg))))))) && ((((mget cv2 n).getD sl0).sx.length : Int) == 0)) && true))] (fun aa ww rr ss => ⟨rv_tmp rr rfl, trivial⟩) ?_
            show ((b_ ((((((((((mget rv2 n).getD sr0).sw) == sm) && ((((mget rv2 n).getD sr0).sg) == lg)) && ((((mget rv2 n).getD sr0).sp) == (cm.length : Int))) && ((((mget rv2 n).getD sr0).sr) == 0)) && ((((totR rv2 (sortK cv2) (sortK cv2).length).sp) == (((mget rv2 n).getD sr0).sp)) && ((((totR rv2 (sortK cv2) (sortK cv2).length).sb) == (((mget rv2 n).getD sr0).sb)) && ((((totR rv2 (sortK cv2) (sortK cv2).length).sr) == (((mget rv2 n).getD sr0).sr)) && ((((totR rv2 (sortK cv2) (sortK cv2).length).sw) == (((mget rv2 n).getD sr0).sw)) && (((totR rv2 (sortK cv2) (sortK cv2).length).sg) == (((mget rv2 n).getD sr0).sg))))))) && ((((mget cv2 n).getD sl0).sx.length : Int) == 0)) && true)) : Value) = (b_ true)
            first | rfl | ((have hjl : j = cm.length := by omega); subst hjl; rw [one_tot hq2 hr (by omega) h0, hx2]; simp [hr.sp, hr.sw, hr.sg, hr.sr])
end Go.Proofs.Ytlhchmmjkokamaa
