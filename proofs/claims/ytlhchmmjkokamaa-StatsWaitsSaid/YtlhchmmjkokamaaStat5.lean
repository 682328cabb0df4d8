/- What the functions of this layer do, proved operation by operation, for all arguments, under the conditions that each theorem states. -/
import Derived.Test.YtlhchmmjkokamaaProg
import Derived.Test.YtlhchmmjkokamaaStat4
namespace Go.Proofs.Ytlhchmmjkokamaa
open Go V
set_option linter.unusedVariables false
set_option linter.unusedSimpArgs false
structure Cl where
  ckd : Int
  ccl : Int
  cat : Int
  cln : Int
  crl : Bool
  deriving Inhabited, DecidableEq
def encCl (x : Cl) : List Value := [(i_ x.ckd), (i_ x.ccl), (u_ x.cat), (i_ x.cln), (b_ x.crl)]
theorem encCl_len (x : Cl) : (encCl x).length = 5 := rfl
theorem encCl_one (x : Cl) : (encCl x).all Value.oneCell' = true := rfl
def ClOk (x : Cl) : Prop := ((-9223372036854775808) ≤ x.ckd ∧ x.ckd ≤ 9223372036854775807) ∧ ((-9223372036854775808) ≤ x.ccl ∧ x.ccl ≤ 9223372036854775807) ∧ (0 ≤ x.cat ∧ x.cat ≤ 18446744073709551615) ∧ ((-9223372036854775808) ≤ x.cln ∧ x.cln ≤ 9223372036854775807) ∧ True
def ksCl : List FK := [.int .i64, .int .i64, .int .u64, .int .i64, .bool]
theorem openCl (cs : List Value) (h : FitsL ksCl cs) : ∃ x, cs = encCl x ∧ ClOk x := by
  unfold ksCl at h
  obtain ⟨v0, cs0, rfl, h0, g0⟩ := fitsL_cons h
  obtain ⟨a0, rfl, r0⟩ := fit_i64 h0
  obtain ⟨v1, cs1, rfl, h1, g1⟩ := fitsL_cons g0
  obtain ⟨a1, rfl, r1⟩ := fit_i64 h1
  obtain ⟨v2, cs2, rfl, h2, g2⟩ := fitsL_cons g1
  obtain ⟨a2, rfl, r2⟩ := fit_u64 h2
  obtain ⟨v3, cs3, rfl, h3, g3⟩ := fitsL_cons g2
  obtain ⟨a3, rfl, r3⟩ := fit_i64 h3
  obtain ⟨v4, cs4, rfl, h4, g4⟩ := fitsL_cons g3
  obtain ⟨a4, rfl⟩ := fit_bool h4
  obtain rfl := fitsL_nil g4
  exact ⟨⟨a0, a1, a2, a3, a4⟩, rfl, r0, r1, r2, r3, trivial⟩
theorem eq_lists {xs ys : List Int} (h : xs.length = ys.length) (hn : ∀ j, j < xs.length → xs[j]? = ys[j]?) : true = (xs == ys) := by
  have : xs = ys := List.ext_getElem? fun j => by
    rcases Nat.lt_or_ge j xs.length with g | g
    · exact hn j g
    · rw [List.getElem?_eq_none g, List.getElem?_eq_none (by omega)]
  simp [this]
theorem ne_lists {xs ys : List Int} {k : Nat} {x y : Int} (hx : xs[k]? = some x) (hy : ys[k]? = some y) (h : ¬ x = y) : false = (xs == ys) := by
  symm; rw [beq_eq_false_iff_ne]; rintro rfl; rw [hx] at hy; cases hy; exact h rfl
theorem ne_len {xs ys : List Int} (h : ¬ (xs.length : Int) = ys.length) : false = (xs == ys) := by
  symm; rw [beq_eq_false_iff_ne]; rintro rfl; exact h rfl
theorem came_1 {z : List (Int × SL)} {c a : Int} (h : CamP [] c a z) : ∃ A k, z = [(c, ⟨A, k, [a]⟩)] := by obtain ⟨A, k, e⟩ := h; exact ⟨A, k, e⟩
theorem came_2 {z y : List (Int × SL)} {c a b : Int} (h1 : ∃ A k, y = [(c, ⟨A, k, [a]⟩)]) (h : CamP y c b z) : ∃ A k, z = [(c, ⟨A, k, [a, b]⟩)] := by
  obtain ⟨A, k, rfl⟩ := h1; obtain ⟨A', k', rfl⟩ := h; exact ⟨A', k', by simp [mput, mget]⟩

set_option maxHeartbeats 4000000 in
set_option maxRecDepth 100000 in
theorem ints_spec (al : Option Addr) (xs : List Int) (cl : Nat) (bl : Option Addr) (ys : List Int) (dl : Nat) (hl : xs.length ≤ 100000) (w : World) (r0 : arrAt w al (V.flat encI xs)) (r1 : arrAt w bl (V.flat encI ys)) :
    Calls Try.prog 19 #[(.slice al xs.length cl), (.slice bl ys.length dl)] w fun e w' => e = .returned (b_ (xs == ys)) ∧ Fr [] w w' := by
  refine calls_of (args := [(.slice al xs.length cl), (.slice bl ys.length dl)]) (penv [(.slice al xs.length cl), (.slice bl ys.length dl)]) [] [] Try.func19 rfl rfl (look_penv _) (HS.nil w) ?_
  refine A.norm [(0, (.slice al xs.length cl)), (1, (.slice bl ys.length dl))] [] (by exact ⟨rfl, rfl, trivial⟩) rfl ?_
  refine A.seq ?_
  refine A.region (A.goA [.p] [(0, (.slice al xs.length cl)), (1, (.slice bl ys.length dl)), (4, (b_ false))] [] T0 (by kernel_rfl) trivial ?_)
  refine A.tn ?_
  refine A.seq ?_
  refine A.seq ?_
  refine A.region (A.goA [.p, .p, .p, .p, .p] [(0, (.slice al xs.length cl)), (1, (.slice bl ys.length dl)), (4, (b_ false)), (10, (b_ ((xs.length : Int) != (ys.length : Int))))] [] T0 (by kernel_rfl) trivial ?_)
  refine A.tn ?_
  refine A.cond (E := (xs.length : Int) != (ys.length : Int)) rfl (fun e1 => ?_) (fun e1 => ?_)
  · skip
    have p1 := e1; try simp only [decide_eq_true_eq, decide_eq_false_iff_not, beq_iff_eq, beq_eq_false_iff_ne, bne_iff_ne, bne_eq_false_iff_eq, ne_eq, Bool.and_eq_true, Bool.or_eq_true, Bool.or_eq_false_iff, Bool.not_eq_true', Bool.not_eq_false', Int.not_lt, Int.not_le, gt_iff_lt, ge_iff_le, Classical.not_not] at p1
    refine A.seq ?_
    refine A.region (A.goA [.p] [(0, (.slice al xs.length cl)), (1, (.slice bl ys.length dl)), (4, (b_ false)), (10, (b_ ((xs.length : Int) != (ys.length : Int))))] [] T0 (by kernel_rfl) trivial ?_)
    refine A.tn ?_
    refine A.ret ?_
    refine A.tr ?_
    refine A.postQ [(b_ false)] (fun aa ww rr ss => ⟨rv_tmp rr rfl, trivial⟩) ?_
    show ((b_ false) : Value) = (b_ (xs == ys))
    refine congrArg Value.bool ?_; first | exact ne_len (by assumption) | exact ne_lists (by assumption) (by assumption) (by assumption) | exact eq_lists (by omega) (fun j hj => hn j (by omega))
  · skip
    have p1 := e1; try simp only [decide_eq_true_eq, decide_eq_false_iff_not, beq_iff_eq, beq_eq_false_iff_ne, bne_iff_ne, bne_eq_false_iff_eq, ne_eq, Bool.and_eq_true, Bool.or_eq_true, Bool.or_eq_false_iff, Bool.not_eq_true', Bool.not_eq_false', Int.not_lt, Int.not_le, gt_iff_lt, ge_iff_le, Classical.not_not] at p1
    refine A.skip ?_
    refine A.tn ?_
    refine A.seq ?_
    refine A.seq ?_
    refine A.region (A.goA [.p, .p, .p] [(0, (.slice al xs.length cl)), (1, (.slice bl ys.length dl)), (4, (b_ false)), (10, (b_ ((xs.length : Int) != (ys.length : Int)))), (12, (i_ (xs.length : Int))), (13, (i_ 0))] [] T0 (by kernel_rfl) trivial ?_)
    refine A.tn ?_
    refine A.block ?_
    refine A.loop (fun (zz : Nat) => match zz with | k => [(0, (.slice al xs.length cl)), (1, (.slice bl ys.length dl)), (12, (i_ (xs.length : Int))), (13, (i_ (k : Int)))]) (fun (zz : Nat) => match zz with | k => []) (fun (zz : Nat) => match zz with | k => (k ≤ xs.length) ∧ (∀ j, j < k → xs[j]? = ys[j]?)) (fun (zz : Nat) => match zz with | k => xs.length - k) (0 : Nat) ⟨(by first | assumption | omega | (simp_all; done) | (simp_all; omega) | grind), (by intro j hj; omega)⟩ ?_ ?_
    · exact A.hereK [] (by exact ⟨rfl, rfl, rfl, rfl, trivial⟩) (by kernel_rfl)
    · rintro k ⟨hk, hn⟩
      refine A.norm [(0, (.slice al xs.length cl)), (1, (.slice bl ys.length dl)), (12, (i_ (xs.length : Int))), (13, (i_ (k : Int)))] [] (by exact ⟨rfl, rfl, rfl, rfl, trivial⟩) rfl ?_
      refine A.seq ?_
      refine A.region (A.goA [.p] [(0, (.slice al xs.length cl)), (1, (.slice bl ys.length dl)), (12, (i_ (xs.length : Int))), (13, (i_ (k : Int))), (14, (b_ (decide ((k : Int) < (xs.length : Int)))))] [] T0 (by kernel_rfl) trivial ?_)
      refine A.tn ?_
      refine A.seq ?_
      refine A.cond (E := decide ((k : Int) < (xs.length : Int))) rfl (fun e2 => ?_) (fun e2 => ?_)
      · skip
        have p2 := of_decide_eq_true e2
        refine A.skip ?_
        refine A.tn ?_
        refine A.seq ?_
        refine A.block ?_
        refine A.seq ?_
        refine A.region (A.goA [.p, .p] [(0, (.slice al xs.length cl)), (1, (.slice bl ys.length dl)), (12, (i_ (xs.length : Int))), (13, (i_ (k : Int))), (14, (b_ (decide ((k : Int) < (xs.length : Int))))), (5, (i_ (k : Int)))] [] T0 (by kernel_rfl) trivial ?_)
        refine A.tn ?_
        refine A.seq ?_
        obtain ⟨x1, hx1⟩ : ∃ x, (xs)[k]? = some x := ⟨_, List.getElem?_eq_getElem (by omega)⟩
        obtain ⟨x2, hx2⟩ : ∃ x, (ys)[k]? = some x := ⟨_, List.getElem?_eq_getElem (by omega)⟩
        refine A.drawA [.p, .p, .ix, .rd [(i_ x1)], .p, .p, .ix, .rd [(i_ x2)], .p] [0, 1, 2, 3, 4, 5, 6, 7, 8] [(0, (.slice al xs.length cl)), (1, (.slice bl ys.length dl)), (12, (i_ (xs.length : Int))), (13, (i_ (k : Int))), (14, (b_ (decide ((k : Int) < (xs.length : Int))))), (5, (i_ (k : Int))), (24, (b_ (x1 != x2)))] [] (fun κ => κ.ix al xs.length (k : Int) ∧ κ.rd ((at0 al).add (k * 1)) [(i_ x1)] ∧ κ.ix bl ys.length (k : Int) ∧ κ.rd ((at0 bl).add (k * 1)) [(i_ x2)] ∧ True) (by kernel_rfl) (by kernel_rfl) ⟨(ixOf encI_len (by decide) (rd_old r0 (by simp [feet])) (by first | omega | (simp; omega) | (simp; done))), (reads_at0 (vs := [(i_ x1)]) encI_len (rd_old r0 (by simp [feet])) hx1 (by simp) rfl), (ixOf encI_len (by decide) (rd_old r1 (by simp [feet])) (by first | omega | (simp; omega) | (simp; done))), (reads_at0 (vs := [(i_ x2)]) encI_len (rd_old r1 (by simp [feet])) hx2 (by simp) rfl), trivial⟩ ?_
        refine A.tn ?_
        refine A.cond (E := x1 != x2) rfl (fun e3 => ?_) (fun e3 => ?_)
        · skip
          have p3 := e3; try simp only [decide_eq_true_eq, decide_eq_false_iff_not, beq_iff_eq, beq_eq_false_iff_ne, bne_iff_ne, bne_eq_false_iff_eq, ne_eq, Bool.and_eq_true, Bool.or_eq_true, Bool.or_eq_false_iff, Bool.not_eq_true', Bool.not_eq_false', Int.not_lt, Int.not_le, gt_iff_lt, ge_iff_le, Classical.not_not] at p3
          refine A.seq ?_
          refine A.region (A.goA [.p] [(0, (.slice al xs.length cl)), (1, (.slice bl ys.length dl)), (12, (i_ (xs.length : Int))), (13, (i_ (k : Int))), (14, (b_ (decide ((k : Int) < (xs.length : Int))))), (5, (i_ (k : Int))), (24, (b_ (x1 != x2))), (4, (b_ false))] [] T0 (by kernel_rfl) trivial ?_)
          refine A.tn ?_
          refine A.ret ?_
          refine A.br ?_
          refine A.tr ?_
          refine A.tr ?_
          refine A.br ?_
          refine A.tr ?_
          refine A.postQ [(b_ false)] (fun aa ww rr ss => ⟨rv_tmp rr rfl, trivial⟩) ?_
          show ((b_ false) : Value) = (b_ (xs == ys))
          refine congrArg Value.bool ?_; first | exact ne_len (by assumption) | exact ne_lists (by assumption) (by assumption) (by assumption) | exact eq_lists (by omega) (fun j hj => hn j (by omega))
        · skip
          have p3 := e3; try simp only [decide_eq_true_eq, decide_eq_false_iff_not, beq_iff_eq, beq_eq_false_iff_ne, bne_iff_ne, bne_eq_false_iff_eq, ne_eq, Bool.and_eq_true, Bool.or_eq_true, Bool.or_eq_false_iff, Bool.not_eq_true', Bool.not_eq_false', Int.not_lt, Int.not_le, gt_iff_lt, ge_iff_le, Classical.not_not] at p3
          refine A.skip ?_
          refine A.bn ?_
          refine A.tn ?_
          refine A.region (A.goA [.w ((k : Int) + 1), .p] [(0, (.slice al xs.length cl)), (1, (.slice bl ys.length dl)), (12, (i_ (xs.length : Int))), (13, (i_ ((k : Int) + 1))), (14, (b_ (decide ((k : Int) < (xs.length : Int))))), (5, (i_ (k : Int))), (24, (b_ (x1 != x2)))] [] (fun κ => (IntKind.i64.wrap ((k : Int) + 1) = ((k : Int) + 1)) ∧ True) (by kernel_rfl) ⟨(wrap_i64 (e := (k : Int) + 1) (by constructor <;> omega)), trivial⟩ ?_)
          refine A.tn ?_
          refine A.next (k + 1) ⟨(by first | assumption | omega | (simp_all; done) | (simp_all; omega) | grind), (by (intro j hj; rcases Nat.lt_or_ge j k with g | g; exact hn j g; (have e_ : j = k := by omega); subst e_; simp_all))⟩ (by first | omega | (simp; omega) | (simp_all; omega)) ?_
          exact A.hereK [] (by exact ⟨rfl, rfl, rfl, rfl, trivial⟩) (by kernel_rfl)
      · skip
        have p2 := of_decide_eq_false e2
        refine A.exit ?_
        refine A.te ?_
        refine A.te ?_
        refine A.bh ?_
        refine A.tn ?_
        refine A.seq ?_
        refine A.region (A.goA [.p] [(0, (.slice al xs.length cl)), (1, (.slice bl ys.length dl)), (12, (i_ (xs.length : Int))), (13, (i_ (k : Int))), (14, (b_ (decide ((k : Int) < (xs.length : Int))))), (4, (b_ true))] [] T0 (by kernel_rfl) trivial ?_)
        refine A.tn ?_
        refine A.ret ?_
        refine A.postQ [(b_ true)] (fun aa ww rr ss => ⟨rv_tmp rr rfl, trivial⟩) ?_
        show ((b_ true) : Value) = (b_ (xs == ys))
        refine congrArg Value.bool ?_; first | exact ne_len (by assumption) | exact ne_lists (by assumption) (by assumption) (by assumption) | exact eq_lists (by omega) (fun j hj => hn j (by omega))

set_option maxHeartbeats 4000000 in
set_option maxRecDepth 100000 in
theorem fifteen_spec (w : World) :
    Calls Try.prog 6 #[] w fun e w' => e = .returned (b_ true) ∧ Fr [] w w' := by
  refine calls_of (args := []) (penv []) [] [] Try.func6 rfl rfl (look_penv _) (HS.nil w) ?_
  refine A.norm [] [] trivial rfl ?_
  refine A.seq ?_
  refine A.region (A.goA [.p] [(0, (b_ false))] [] T0 (by kernel_rfl) trivial ?_)
  refine A.tn ?_
  refine A.seq ?_
  refine A.region ?_
  refine A.cons (A.callT (some 5) [] [] ((fun zz => match zz with | (bs1, mc2, mr3) => (p_ bs1))) ((fun zz => match zz with | (bs1, mc2, mr3) => True)) ((fun zz => match zz with | (bs1, mc2, mr3) => [blk bs1 [(.map (some mc2)), (.map (some mr3))] 58, mapI (fun k : Int => i_ k) slV mc2 ([] : List (Int × SL)), bagI 27 encU ([] : List (Int × SL)), mapI (fun k : Int => i_ k) (fun y : SR => (.agg #[u_ y.sp, u_ y.sb, u_ y.sr, u_ y.sw, u_ y.sg])) mr3 ([] : List (Int × SR))])) (fun zz => match zz with | (bs1, mc2, mr3) => [blk bs1 [(.map (some mc2)), (.map (some mr3))] 58, mapI (fun k : Int => i_ k) slV mc2 ([] : List (Int × SL)), bagI 27 encU ([] : List (Int × SL)), mapI (fun k : Int => i_ k) (fun y : SR => (.agg #[u_ y.sp, u_ y.sb, u_ y.sr, u_ y.sw, u_ y.sg])) mr3 ([] : List (Int × SR))]) (by kernel_rfl) rfl rfl (fun ww ss hh => st_new ww hh) (fun _ => rfl) ?_)
  rintro ⟨bs1, mc2, mr3⟩ -
  refine A.goA [.p] [(0, (b_ false)), (1, (p_ bs1))] [] T0 (by kernel_rfl) trivial ?_
  refine A.tn ?_
  refine A.seq ?_
  refine A.region (A.goP [.p] [(0, (b_ false)), (1, (p_ bs1)), (6, (p_ bs1))] [] T0 (by kernel_rfl) trivial ?_)
  refine A.cons (A.callT (some 7) [(p_ bs1), (i_ 3), (u_ 5)] [0, 0, 0, 0] ((fun zc4 => (i_ 0))) ((fun zc4 => CamP ([] : List (Int × SL)) 3 5 zc4)) ((fun zc4 => [blk bs1 [(.map (some mc2)), (.map (some mr3))] 58, mapI (fun k : Int => i_ k) slV mc2 zc4, bagI 27 encU zc4, mapI (fun k : Int => i_ k) (fun y : SR => (.agg #[u_ y.sp, u_ y.sb, u_ y.sr, u_ y.sw, u_ y.sg])) mr3 ([] : List (Int × SR))])) (fun zc4 => [blk bs1 [(.map (some mc2)), (.map (some mr3))] 58, mapI (fun k : Int => i_ k) slV mc2 zc4, bagI 27 encU zc4, mapI (fun k : Int => i_ k) (fun y : SR => (.agg #[u_ y.sp, u_ y.sb, u_ y.sr, u_ y.sw, u_ y.sg])) mr3 ([] : List (Int × SR))]) (by kernel_rfl) rfl rfl (fun ww ss hh => st_came bs1 mc2 mr3 ([] : List (Int × SL)) ([] : List (Int × SR)) 3 5 (by first | assumption | (simp [mget, sl0]; done) | (obtain ⟨A_, k_, e_⟩ := (by assumption : ∃ A k, _ = [((3 : Int), (⟨A, k, [5]⟩ : SL))]); rw [e_]; simp [mget]; done) | (rw [hz_]; simp [wentE, mget]; done) | (rw [hz_]; intro p hp; simp [mput] at hp; rw [hp]; exact ⟨by simp, by simp⟩) | (rw [hz_]; simp [mput]; done) | (rw [sortK_len, hz_]; simp [mput]; done)) ww hh) (fun _ => rfl) ?_)
  rintro zc4 hz2
  have hz21 := came_1 hz2
  refine A.goP [.p] [(0, (b_ false)), (1, (p_ bs1)), (7, (i_ 0)), (8, (p_ bs1))] [] T0 (by kernel_rfl) trivial ?_
  refine A.cons (A.callT (some 9) [(p_ bs1), (i_ 3), (u_ 7)] [0, 0, 0, 0] ((fun zc5 => (i_ 0))) ((fun zc5 => CamP zc4 3 7 zc5)) ((fun zc5 => [blk bs1 [(.map (some mc2)), (.map (some mr3))] 58, mapI (fun k : Int => i_ k) slV mc2 zc5, bagI 27 encU zc5, mapI (fun k : Int => i_ k) (fun y : SR => (.agg #[u_ y.sp, u_ y.sb, u_ y.sr, u_ y.sw, u_ y.sg])) mr3 ([] : List (Int × SR))])) (fun zc5 => [blk bs1 [(.map (some mc2)), (.map (some mr3))] 58, mapI (fun k : Int => i_ k) slV mc2 zc5, bagI 27 encU zc5, mapI (fun k : Int => i_ k) (fun y : SR => (.agg #[u_ y.sp, u_ y.sb, u_ y.sr, u_ y.sw, u_ y.sg])) mr3 ([] : List (Int × SR))]) (by kernel_rfl) rfl rfl (fun ww ss hh => st_came bs1 mc2 mr3 zc4 ([] : List (Int × SR)) 3 7 (by first | assumption | (simp [mget, sl0]; done) | (obtain ⟨A_, k_, e_⟩ := (by assumption : ∃ A k, _ = [((3 : Int), (⟨A, k, [5]⟩ : SL))]); rw [e_]; simp [mget]; done) | (rw [hz_]; simp [wentE, mget]; done) | (rw [hz_]; intro p hp; simp [mput] at hp; rw [hp]; exact ⟨by simp, by simp⟩) | (rw [hz_]; simp [mput]; done) | (rw [sortK_len, hz_]; simp [mput]; done)) ww hh) (fun _ => rfl) ?_)
  rintro zc5 hz3
  obtain ⟨zA, zk, hz_⟩ := came_2 hz21 hz3
  refine A.goA [.p, .p] [(0, (b_ false)), (1, (p_ bs1)), (2, (i_ 0)), (3, (i_ 0))] [] T0 (by kernel_rfl) trivial ?_
  refine A.tn ?_
  refine A.seq ?_
  refine A.region (A.goP [.p] [(0, (b_ false)), (1, (p_ bs1)), (2, (i_ 0)), (3, (i_ 0)), (10, (p_ bs1))] [] T0 (by kernel_rfl) trivial ?_)
  refine A.cons (A.callT (some 11) [(p_ bs1), (i_ 3), (u_ 20), (i_ 100), (b_ true)] [0, 0, 0, 0] ((fun _ => (i_ 0))) ((fun _ => True)) ((fun _ => [blk bs1 [(.map (some mc2)), (.map (some mr3))] 58, mapI (fun k : Int => i_ k) slV mc2 (mput zc5 3 (cutSL ((mget zc5 3).getD sl0))), bagI 27 encU (mput zc5 3 (cutSL ((mget zc5 3).getD sl0))), mapI (fun k : Int => i_ k) (fun y : SR => (.agg #[u_ y.sp, u_ y.sb, u_ y.sr, u_ y.sw, u_ y.sg])) mr3 (mput ([] : List (Int × SR)) 3 (addR ((mget ([] : List (Int × SR)) 3).getD sr0) (((mget zc5 3).getD sl0).sx.headD 0) 20 100 true))])) (fun _ => [blk bs1 [(.map (some mc2)), (.map (some mr3))] 58, mapI (fun k : Int => i_ k) slV mc2 (mput zc5 3 (cutSL ((mget zc5 3).getD sl0))), bagI 27 encU (mput zc5 3 (cutSL ((mget zc5 3).getD sl0))), mapI (fun k : Int => i_ k) (fun y : SR => (.agg #[u_ y.sp, u_ y.sb, u_ y.sr, u_ y.sw, u_ y.sg])) mr3 (mput ([] : List (Int × SR)) 3 (addR ((mget ([] : List (Int × SR)) 3).getD sr0) (((mget zc5 3).getD sl0).sx.headD 0) 20 100 true))]) (by kernel_rfl) rfl rfl (fun ww ss hh => st_went bs1 mc2 mr3 zc5 ([] : List (Int × SR)) 3 20 100 true (by first | assumption | (simp [mget, sl0]; done) | (obtain ⟨A_, k_, e_⟩ := (by assumption : ∃ A k, _ = [((3 : Int), (⟨A, k, [5]⟩ : SL))]); rw [e_]; simp [mget]; done) | (rw [hz_]; simp [wentE, mget]; done) | (rw [hz_]; intro p hp; simp [mput] at hp; rw [hp]; exact ⟨by simp, by simp⟩) | (rw [hz_]; simp [mput]; done) | (rw [sortK_len, hz_]; simp [mput]; done)) ww hh) (fun _ => rfl) ?_)
  rintro ⟨⟩ -
  refine A.goA [.p] [(0, (b_ false)), (1, (p_ bs1)), (2, (i_ 0)), (3, (i_ 0)), (4, (i_ 0))] [] T0 (by kernel_rfl) trivial ?_
  refine A.tn ?_
  refine A.seq ?_
  refine A.region (A.goP [.p, .p, .p, .p, .p, .p, .p, .p, .p, .p, .p, .p, .cq (i_ (((mget (mput zc5 3 (cutSL ((mget zc5 3).getD sl0))) 3).getD sl0).sx.length : Int)), .p, .p, .p, .o, .p, .cq (.agg #[(u_ (((mget (mput ([] : List (Int × SR)) 3 (addR ((mget ([] : List (Int × SR)) 3).getD sr0) (((mget zc5 3).getD sl0).sx.headD 0) 20 100 true)) 3).getD sr0).sp)), (u_ (((mget (mput ([] : List (Int × SR)) 3 (addR ((mget ([] : List (Int × SR)) 3).getD sr0) (((mget zc5 3).getD sl0).sx.headD 0) 20 100 true)) 3).getD sr0).sb)), (u_ (((mget (mput ([] : List (Int × SR)) 3 (addR ((mget ([] : List (Int × SR)) 3).getD sr0) (((mget zc5 3).getD sl0).sx.headD 0) 20 100 true)) 3).getD sr0).sr)), (u_ (((mget (mput ([] : List (Int × SR)) 3 (addR ((mget ([] : List (Int × SR)) 3).getD sr0) (((mget zc5 3).getD sl0).sx.headD 0) 20 100 true)) 3).getD sr0).sw)), (u_ (((mget (mput ([] : List (Int × SR)) 3 (addR ((mget ([] : List (Int × SR)) 3).getD sr0) (((mget zc5 3).getD sl0).sx.headD 0) 20 100 true)) 3).getD sr0).sg))]), .p, .eq, .cl, .p] [(0, (b_ false)), (1, (p_ bs1)), (2, (i_ 0)), (3, (i_ 0)), (4, (i_ 0)), (33, (b_ (((((mget (mput zc5 3 (cutSL ((mget zc5 3).getD sl0))) 3).getD sl0).sx.length : Int) == 1) && (((((mget (mput ([] : List (Int × SR)) 3 (addR ((mget ([] : List (Int × SR)) 3).getD sr0) (((mget zc5 3).getD sl0).sx.headD 0) 20 100 true)) 3).getD sr0).sp) == 1) && (((((mget (mput ([] : List (Int × SR)) 3 (addR ((mget ([] : List (Int × SR)) 3).getD sr0) (((mget zc5 3).getD sl0).sx.headD 0) 20 100 true)) 3).getD sr0).sb) == 100) && (((((mget (mput ([] : List (Int × SR)) 3 (addR ((mget ([] : List (Int × SR)) 3).getD sr0) (((mget zc5 3).getD sl0).sx.headD 0) 20 100 true)) 3).getD sr0).sr) == 1) && (((((mget (mput ([] : List (Int × SR)) 3 (addR ((mget ([] : List (Int × SR)) 3).getD sr0) (((mget zc5 3).getD sl0).sx.headD 0) 20 100 true)) 3).getD sr0).sw) == 15) && ((((mget (mput ([] : List (Int × SR)) 3 (addR ((mget ([] : List (Int × SR)) 3).getD sr0) (((mget zc5 3).getD sl0).sx.headD 0) 20 100 true)) 3).getD sr0).sg) == 15))))))))] [] (fun κ => κ.call 16 [(p_ bs1), (i_ 3)] (i_ (((mget (mput zc5 3 (cutSL ((mget zc5 3).getD sl0))) 3).getD sl0).sx.length : Int)) ∧ ((true && (((((mget (mput zc5 3 (cutSL ((mget zc5 3).getD sl0))) 3).getD sl0).sx.length : Int) == 1) == true)) = true → κ.call 13 [(p_ bs1), (i_ 3)] (.agg #[(u_ (((mget (mput ([] : List (Int × SR)) 3 (addR ((mget ([] : List (Int × SR)) 3).getD sr0) (((mget zc5 3).getD sl0).sx.headD 0) 20 100 true)) 3).getD sr0).sp)), (u_ (((mget (mput ([] : List (Int × SR)) 3 (addR ((mget ([] : List (Int × SR)) 3).getD sr0) (((mget zc5 3).getD sl0).sx.headD 0) 20 100 true)) 3).getD sr0).sb)), (u_ (((mget (mput ([] : List (Int × SR)) 3 (addR ((mget ([] : List (Int × SR)) 3).getD sr0) (((mget zc5 3).getD sl0).sx.headD 0) 20 100 true)) 3).getD sr0).sr)), (u_ (((mget (mput ([] : List (Int × SR)) 3 (addR ((mget ([] : List (Int × SR)) 3).getD sr0) (((mget zc5 3).getD sl0).sx.headD 0) 20 100 true)) 3).getD sr0).sw)), (u_ (((mget (mput ([] : List (Int × SR)) 3 (addR ((mget ([] : List (Int × SR)) 3).getD sr0) (((mget zc5 3).getD sl0).sx.headD 0) 20 100 true)) 3).getD sr0).sg))])) ∧ True) (by kernel_rfl) ⟨(fun ww ss => st_wait bs1 mc2 mr3 (mput zc5 3 (cutSL ((mget zc5 3).getD sl0))) 3 ww (ss.mem (i := 0) rfl) (ss.mem (i := 1) rfl)), (fun h_ => (fun ww ss => st_row bs1 mc2 mr3 (mput ([] : List (Int × SR)) 3 (addR ((mget ([] : List (Int × SR)) 3).getD sr0) (((mget zc5 3).getD sl0).sx.headD 0) 20 100 true)) 3 ww (ss.mem (i := 0) rfl) (ss.mem (i := 3) rfl))), trivial⟩ ?_)
  refine A.bool (((((mget (mput zc5 3 (cutSL ((mget zc5 3).getD sl0))) 3).getD sl0).sx.length : Int) == 1) && (((((mget (mput ([] : List (Int × SR)) 3 (addR ((mget ([] : List (Int × SR)) 3).getD sr0) (((mget zc5 3).getD sl0).sx.headD 0) 20 100 true)) 3).getD sr0).sp) == 1) && (((((mget (mput ([] : List (Int × SR)) 3 (addR ((mget ([] : List (Int × SR)) 3).getD sr0) (((mget zc5 3).getD sl0).sx.headD 0) 20 100 true)) 3).getD sr0).sb) == 100) && (((((mget (mput ([] : List (Int × SR)) 3 (addR ((mget ([] : List (Int × SR)) 3).getD sr0) (((mget zc5 3).getD sl0).sx.headD 0) 20 100 true)) 3).getD sr0).sr) == 1) && (((((mget (mput ([] : List (Int × SR)) 3 (addR ((mget ([] : List (Int × SR)) 3).getD sr0) (((mget zc5 3).getD sl0).sx.headD 0) 20 100 true)) 3).getD sr0).sw) == 15) && ((((mget (mput ([] : List (Int × SR)) 3 (addR ((mget ([] : List (Int × SR)) 3).getD sr0) (((mget zc5 3).getD sl0).sx.headD 0) 20 100 true)) 3).getD sr0).sg) == 15)))))) (fun e5 => ?_) (fun e5 => ?_)
  · skip
    refine A.sub [(0, (b_ false)), (1, (p_ bs1)), (2, (i_ 0)), (3, (i_ 0)), (4, (i_ 0)), (33, (b_ true))] (by exact ⟨rfl, rfl, rfl, rfl, rfl, (congrArg (fun z => some (Value.bool z)) e5), trivial⟩) ?_
    refine A.goP [.p] [(0, (b_ false)), (1, (p_ bs1)), (2, (i_ 0)), (3, (i_ 0)), (4, (i_ 0)), (33, (b_ true)), (34, (p_ bs1))] [] T0 (by kernel_rfl) trivial ?_
    refine A.cons (A.callT (some 35) [(p_ bs1)] [] ((fun zz => match zz with | (al'6, cl'7) => (.slice al'6 ((sortK (mput zc5 3 (cutSL ((mget zc5 3).getD sl0)))).length) cl'7))) ((fun zz => match zz with | (al'6, cl'7) => True)) ((fun zz => match zz with | (al'6, cl'7) => [sl al'6 ((sortK (mput zc5 3 (cutSL ((mget zc5 3).getD sl0)))).length) cl'7 3 1 (V.flat encI (sortK (mput zc5 3 (cutSL ((mget zc5 3).getD sl0)))))])) (fun zz => match zz with | (al'6, cl'7) => [sl al'6 ((sortK (mput zc5 3 (cutSL ((mget zc5 3).getD sl0)))).length) cl'7 3 1 (V.flat encI (sortK (mput zc5 3 (cutSL ((mget zc5 3).getD sl0))))), blk bs1 [(.map (some mc2)), (.map (some mr3))] 58, mapI (fun k : Int => i_ k) slV mc2 (mput zc5 3 (cutSL ((mget zc5 3).getD sl0))), bagI 27 encU (mput zc5 3 (cutSL ((mget zc5 3).getD sl0))), mapI (fun k : Int => i_ k) (fun y : SR => (.agg #[u_ y.sp, u_ y.sb, u_ y.sr, u_ y.sw, u_ y.sg])) mr3 (mput ([] : List (Int × SR)) 3 (addR ((mget ([] : List (Int × SR)) 3).getD sr0) (((mget zc5 3).getD sl0).sx.headD 0) 20 100 true))]) (by kernel_rfl) rfl rfl (fun ww ss hh => st_cls bs1 mc2 mr3 (mput zc5 3 (cutSL ((mget zc5 3).getD sl0))) (by first | assumption | (simp [mget, sl0]; done) | (obtain ⟨A_, k_, e_⟩ := (by assumption : ∃ A k, _ = [((3 : Int), (⟨A, k, [5]⟩ : SL))]); rw [e_]; simp [mget]; done) | (rw [hz_]; simp [wentE, mget]; done) | (rw [hz_]; intro p hp; simp [mput] at hp; rw [hp]; exact ⟨by simp, by simp⟩) | (rw [hz_]; simp [mput]; done) | (rw [sortK_len, hz_]; simp [mput]; done)) (by first | assumption | (simp [mget, sl0]; done) | (obtain ⟨A_, k_, e_⟩ := (by assumption : ∃ A k, _ = [((3 : Int), (⟨A, k, [5]⟩ : SL))]); rw [e_]; simp [mget]; done) | (rw [hz_]; simp [wentE, mget]; done) | (rw [hz_]; intro p hp; simp [mput] at hp; rw [hp]; exact ⟨by simp, by simp⟩) | (rw [hz_]; simp [mput]; done) | (rw [sortK_len, hz_]; simp [mput]; done)) ww (ss.mem (i := 0) rfl) (ss.mem (i := 1) rfl) hh) (fun _ => rfl) ?_)
    rintro ⟨al'6, cl'7⟩ -
    refine A.cons (A.buildSlice 36 (e := 3) [(i_ 3)] (by kernel_rfl) rfl (fun _ => by kernel_rfl) (fun b9 => [sl al'6 ((sortK (mput zc5 3 (cutSL ((mget zc5 3).getD sl0)))).length) cl'7 3 1 (V.flat encI (sortK (mput zc5 3 (cutSL ((mget zc5 3).getD sl0))))), blk bs1 [(.map (some mc2)), (.map (some mr3))] 58, mapI (fun k : Int => i_ k) slV mc2 (mput zc5 3 (cutSL ((mget zc5 3).getD sl0))), bagI 27 encU (mput zc5 3 (cutSL ((mget zc5 3).getD sl0))), mapI (fun k : Int => i_ k) (fun y : SR => (.agg #[u_ y.sp, u_ y.sb, u_ y.sr, u_ y.sw, u_ y.sg])) mr3 (mput ([] : List (Int × SR)) 3 (addR ((mget ([] : List (Int × SR)) 3).getD sr0) (((mget zc5 3).getD sl0).sx.headD 0) 20 100 true)), blk b9 [(i_ 3)] 3]) (fun _ => rfl) ?_)
    intro b9
    refine A.goA [.cq (b_ ((sortK (mput zc5 3 (cutSL ((mget zc5 3).getD sl0)))) == ([3]))), .p, .p] [(0, (b_ ((sortK (mput zc5 3 (cutSL ((mget zc5 3).getD sl0)))) == ([3])))), (1, (p_ bs1)), (2, (i_ 0)), (3, (i_ 0)), (4, (i_ 0))] [] (fun κ => κ.call 19 [(.slice al'6 ((sortK (mput zc5 3 (cutSL ((mget zc5 3).getD sl0)))).length) cl'7), (.slice (some ⟨b9, 0, none⟩) 1 1)] (b_ ((sortK (mput zc5 3 (cutSL ((mget zc5 3).getD sl0)))) == ([3]))) ∧ True) (by kernel_rfl) ⟨(fun ww ss => ints_spec al'6 (sortK (mput zc5 3 (cutSL ((mget zc5 3).getD sl0)))) cl'7 (some ⟨b9, 0, none⟩) ([3]) 1 (by first | assumption | (simp [mget, sl0]; done) | (obtain ⟨A_, k_, e_⟩ := (by assumption : ∃ A k, _ = [((3 : Int), (⟨A, k, [5]⟩ : SL))]); rw [e_]; simp [mget]; done) | (rw [hz_]; simp [wentE, mget]; done) | (rw [hz_]; intro p hp; simp [mput] at hp; rw [hp]; exact ⟨by simp, by simp⟩) | (rw [hz_]; simp [mput]; done) | (rw [sortK_len, hz_]; simp [mput]; done)) ww ((rd_sl (i := 0) rfl) ww ss) ((rd_blk (i := 5) rfl) ww ss)), trivial⟩ ?_
    refine A.tn ?_
    refine A.ret ?_
    refine A.postQ [(b_ ((sortK (mput zc5 3 (cutSL ((mget zc5 3).getD sl0)))) == ([3])))] (fun aa ww rr ss => ⟨rv_tmp rr rfl, trivial⟩) ?_
    show ((b_ ((sortK (mput zc5 3 (cutSL ((mget zc5 3).getD sl0)))) == ([3]))) : Value) = (b_ true)
    rw [hz_]; first | (simp [mput, mget, sr0, addR, imax, cutSL, sl0, sortK]; done) | (simp [mput, mget, sr0, addR, imax, cutSL, sl0, sortK]; decide)
  · exact absurd e5 (by (rw [hz_]; first | (simp [mput, mget, sr0, addR, imax, cutSL, sl0]; done) | (simp [mput, mget, sr0, addR, imax, cutSL, sl0]; decide)))

set_option maxHeartbeats 4000000 in
set_option maxRecDepth 100000 in
theorem statsNil_walk (x : Cl) (w : World) :
    Calls Try.prog 5 #[(.agg #[(i_ x.ckd), (i_ x.ccl), (u_ x.cat), (i_ x.cln), (b_ x.crl)])] w fun e w' => e = .returned (b_ true) ∧ Fr [] w w' := by
  refine calls_of (args := [(.agg #[(i_ x.ckd), (i_ x.ccl), (u_ x.cat), (i_ x.cln), (b_ x.crl)])]) (penv [(.agg #[(i_ x.ckd), (i_ x.ccl), (u_ x.cat), (i_ x.cln), (b_ x.crl)])]) [] [] Try.func5 rfl rfl (look_penv _) (HS.nil w) ?_
  refine A.norm [(0, (.agg #[(i_ x.ckd), (i_ x.ccl), (u_ x.cat), (i_ x.cln), (b_ x.crl)]))] [] (by exact ⟨rfl, trivial⟩) rfl ?_
  refine A.seq ?_
  refine A.region (A.goA1 [.al, .p] [0, 1, 2] (fun b1 => [(0, (.agg #[(i_ x.ckd), (i_ x.ccl), (u_ x.cat), (i_ x.cln), (b_ x.crl)])), (1, (p_ b1)), (2, (b_ false))]) (fun b1 => [blk b1 [(i_ x.ckd), (i_ x.ccl), (u_ x.cat), (i_ x.cln), (b_ x.crl)] 29]) (fun b1 => []) (fun _ => T0) (fun _ => by kernel_rfl) (fun b1 => trivial) ?_)
  intro b1
  refine A.tn ?_
  refine A.seq ?_
  refine A.region (A.goA [.p] [(0, (.agg #[(i_ x.ckd), (i_ x.ccl), (u_ x.cat), (i_ x.cln), (b_ x.crl)])), (1, (p_ b1)), (2, (b_ false)), (3, n_)] [] T0 (by kernel_rfl) trivial ?_)
  refine A.tn ?_
  refine A.seq ?_
  refine A.region (A.goA [.p, .p, .ld 0, .p, .ld 0, .cq (i_ 7), .p, .p, .p, .p, .ld 0, .p, .ld 0, .p, .ld 0, .p, .ld 0, .cq (i_ 7), .p, .p, .p, .p, .p, .ld 0, .cq (.agg #[(u_ 0), (u_ 0), (u_ 0), (u_ 0), (u_ 0)]), .p, .eq, .p, .p, .p, .p, .ld 0, .cq (i_ 0), .p, .p, .p, .p, .cq e_, .p, .p, .p, .p, .p, .cq (.agg #[(u_ 0), (u_ 0), (u_ 0), (u_ 0), (u_ 0)]), .p, .eq, .p, .p, .cq (b_ true), .p, .p] [(0, (.agg #[(i_ x.ckd), (i_ x.ccl), (u_ x.cat), (i_ x.cln), (b_ x.crl)])), (1, (p_ b1)), (2, (b_ true)), (3, n_)] [b1, b1, b1, b1, b1, b1, b1, b1] (fun κ => κ.call 8 [n_, (i_ x.ccl), (u_ x.cat)] (i_ 7) ∧ κ.call 10 [n_, (i_ x.ccl), (u_ x.cat), (i_ x.cln), (b_ x.crl)] (i_ 7) ∧ κ.call 13 [n_, (i_ x.ccl)] (.agg #[(u_ 0), (u_ 0), (u_ 0), (u_ 0), (u_ 0)]) ∧ κ.call 16 [n_, (i_ x.ccl)] (i_ 0) ∧ κ.call 20 [n_] e_ ∧ κ.call 18 [n_] (.agg #[(u_ 0), (u_ 0), (u_ 0), (u_ 0), (u_ 0)]) ∧ κ.call 6 [] (b_ true) ∧ True) (by kernel_rfl) ⟨(fun ww ss => st_came_nil x.ccl x.cat ww), (fun ww ss => st_went_nil x.ccl x.cat x.cln x.crl ww), (fun ww ss => st_row_nil x.ccl ww), (fun ww ss => st_wait_nil x.ccl ww), (fun ww ss => st_cls_nil ww), (fun ww ss => st_tot_nil ww), (fun ww ss => fifteen_spec ww), trivial⟩ ?_)
  refine A.tn ?_
  refine A.ret ?_
  refine A.postQ [(b_ true)] (fun aa ww rr ss => ⟨rv_tmp rr rfl, trivial⟩) ?_
  rfl
end Go.Proofs.Ytlhchmmjkokamaa
