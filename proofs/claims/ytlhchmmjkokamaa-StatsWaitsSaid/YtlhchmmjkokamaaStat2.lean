/- What the functions of this layer do, proved operation by operation, for all arguments, under the conditions that each theorem states. -/
import Derived.Test.YtlhchmmjkokamaaProg
import Derived.Test.YtlhchmmjkokamaaStat1
namespace Go.Proofs.Ytlhchmmjkokamaa
open Go V
set_option linter.unusedVariables false
set_option linter.unusedSimpArgs false
def wentE (cv : List (Int × SL)) (ci dn nb : Int) : Int := match ((mget cv ci).getD sl0).sx with
  | [] => 6
  | x :: _ => if nb < 1 then 26 else if dn < x then 27 else 0
theorem wentE_nil {cv : List (Int × SL)} {ci dn nb : Int} (h : (((mget cv ci).getD sl0).sx.length : Int) = 0) : wentE cv ci dn nb = 6 := by
  unfold wentE; cases e : ((mget cv ci).getD sl0).sx with
  | nil => rfl
  | cons x xs => rw [e] at h; simp at h; omega
theorem wentE_at {cv : List (Int × SL)} {ci dn nb x : Int} (h : ((mget cv ci).getD sl0).sx[0]? = some x) : wentE cv ci dn nb = if nb < 1 then 26 else if dn < x then 27 else 0 := by
  unfold wentE; cases e : ((mget cv ci).getD sl0).sx with
  | nil => rw [e] at h; simp at h
  | cons y xs => rw [e] at h; simp at h; subst h; rfl
theorem wentE_pos {cv : List (Int × SL)} {ci dn nb : Int} (h : wentE cv ci dn nb = 0) : 1 ≤ ((mget cv ci).getD sl0).sx.length := by
  unfold wentE at h; cases e : ((mget cv ci).getD sl0).sx with
  | nil => rw [e] at h; simp at h
  | cons y xs => simp
theorem wentE_short {cv : List (Int × SL)} {ci dn nb : Int} (h : ¬ (((mget cv ci).getD sl0).sx.length : Int) = 0) (h2 : nb < 1) : wentE cv ci dn nb = 26 := by
  unfold wentE; cases e : ((mget cv ci).getD sl0).sx with
  | nil => rw [e] at h; simp at h
  | cons y xs => simp only; rw [if_pos h2]
def cutSL (s : SL) : SL := ⟨cutA s.sa s.sc 1 1, s.sc - 1, s.sx.drop 1⟩
def addR (r : SR) (x dn nb : Int) (rl : Bool) : SR := ⟨IntKind.u64.wrap (r.sp + 1), IntKind.u64.wrap (r.sb + IntKind.u64.wrap nb), if rl then IntKind.u64.wrap (r.sr + 1) else r.sr, IntKind.u64.wrap (r.sw + IntKind.u64.wrap (dn - x)), imax r.sg (IntKind.u64.wrap (dn - x))⟩
theorem headD_at {l : List Int} {x : Int} (h : l[0]? = some x) : l.headD 0 = x := by cases l <;> simp_all

set_option maxHeartbeats 4000000 in
set_option maxRecDepth 100000 in
theorem st_went_nil (ci dn nb : Int) (rl : Bool) (w : World) :
    Calls Try.prog 10 #[n_, (i_ ci), (u_ dn), (i_ nb), (b_ rl)] w fun e w' => e = .returned (i_ 7) ∧ Fr [] w w' := by
  refine calls_of (args := [n_, (i_ ci), (u_ dn), (i_ nb), (b_ rl)]) (penv [n_, (i_ ci), (u_ dn), (i_ nb), (b_ rl)]) [] [] Try.func10 rfl rfl (look_penv _) (HS.nil w) ?_
  refine A.norm [(0, n_), (1, (i_ ci)), (2, (u_ dn)), (3, (i_ nb)), (4, (b_ rl))] [] (by exact ⟨rfl, rfl, rfl, rfl, rfl, trivial⟩) rfl ?_
  refine A.seq ?_
  refine A.region (A.goA [.p] [(0, n_), (1, (i_ ci)), (2, (u_ dn)), (3, (i_ nb)), (4, (b_ rl)), (10, (i_ 0))] [] T0 (by kernel_rfl) trivial ?_)
  refine A.tn ?_
  refine A.seq ?_
  refine A.seq ?_
  refine A.region (A.goA [.p, .p] [(0, n_), (1, (i_ ci)), (2, (u_ dn)), (3, (i_ nb)), (4, (b_ rl)), (10, (i_ 0)), (14, (b_ true))] [] T0 (by kernel_rfl) trivial ?_)
  refine A.tn ?_
  refine A.cond_t rfl ?_
  refine A.seq ?_
  refine A.region (A.goA [.p] [(0, n_), (1, (i_ ci)), (2, (u_ dn)), (3, (i_ nb)), (4, (b_ rl)), (10, (i_ 7)), (14, (b_ true))] [] T0 (by kernel_rfl) trivial ?_)
  refine A.tn ?_
  refine A.ret ?_
  refine A.tr ?_
  refine A.postQ [(i_ 7)] (fun aa ww rr ss => ⟨rv_tmp rr rfl, trivial⟩) ?_
  rfl

set_option maxHeartbeats 4000000 in
set_option maxRecDepth 100000 in
theorem st_went_err (bs mc mr : Nat) (cv : List (Int × SL)) (rv : List (Int × SR)) (ci dn nb : Int) (rl : Bool) (hw : ¬ wentE cv ci dn nb = 0) (w : World) (r0 : (blk bs [(.map (some mc)), (.map (some mr))] 58).holds w) (r1 : (mapI (fun k : Int => i_ k) slV mc cv).holds w) (r2 : (bagI 27 encU cv).holds w) (r3 : (mapI (fun k : Int => i_ k) (fun y : SR => (.agg #[u_ y.sp, u_ y.sb, u_ y.sr, u_ y.sw, u_ y.sg])) mr rv).holds w) :
    Calls Try.prog 10 #[(p_ bs), (i_ ci), (u_ dn), (i_ nb), (b_ rl)] w fun e w' => e = .returned (i_ (wentE cv ci dn nb)) ∧ Fr [] w w' := by
  refine calls_of (args := [(p_ bs), (i_ ci), (u_ dn), (i_ nb), (b_ rl)]) (penv [(p_ bs), (i_ ci), (u_ dn), (i_ nb), (b_ rl)]) [] [] Try.func10 rfl rfl (look_penv _) (HS.nil w) ?_
  refine A.norm [(0, (p_ bs)), (1, (i_ ci)), (2, (u_ dn)), (3, (i_ nb)), (4, (b_ rl))] [] (by exact ⟨rfl, rfl, rfl, rfl, rfl, trivial⟩) rfl ?_
  refine A.seq ?_
  refine A.region (A.goA [.p] [(0, (p_ bs)), (1, (i_ ci)), (2, (u_ dn)), (3, (i_ nb)), (4, (b_ rl)), (10, (i_ 0))] [] T0 (by kernel_rfl) trivial ?_)
  refine A.tn ?_
  refine A.seq ?_
  refine A.seq ?_
  refine A.region (A.goA [.p, .p] [(0, (p_ bs)), (1, (i_ ci)), (2, (u_ dn)), (3, (i_ nb)), (4, (b_ rl)), (10, (i_ 0)), (14, (b_ false))] [] T0 (by kernel_rfl) trivial ?_)
  refine A.tn ?_
  refine A.cond_f rfl ?_
  refine A.skip ?_
  refine A.tn ?_
  refine A.seq ?_
  refine A.region (A.goP [.p, .p, .p, .rd [(.map (some mc))], .p] [(0, (p_ bs)), (1, (i_ ci)), (2, (u_ dn)), (3, (i_ nb)), (4, (b_ rl)), (10, (i_ 0)), (14, (b_ false)), (18, (.map (some mc))), (19, (i_ ci))] [] (fun κ => κ.rd ⟨bs, 0, none⟩ [(.map (some mc))] ∧ True) (by kernel_rfl) ⟨(reads_oldblk r0 rfl), trivial⟩ ?_)
  refine A.cons (A.q (some 20) (.slice (((mget cv ci).getD sl0).sa) (((mget cv ci).getD sl0).sx.length) (((mget cv ci).getD sl0).sc)) (by kernel_rfl) (qt_lookup (kt := 3) (et := 52) (enck := (fun k : Int => i_ k)) (encv := slV) (b := mc) (kv := cv) (k := ci) (d0 := sl0) (fun ww ss => old_item ss r1) rfl rfl rfl (by kernel_rfl) keyOk_I (by kernel_rfl) rfl) ?_)
  refine A.goA [.p] [(0, (p_ bs)), (1, (i_ ci)), (2, (u_ dn)), (3, (i_ nb)), (4, (b_ rl)), (10, (i_ 0)), (14, (b_ false)), (11, (.slice (((mget cv ci).getD sl0).sa) (((mget cv ci).getD sl0).sx.length) (((mget cv ci).getD sl0).sc)))] [] T0 (by kernel_rfl) trivial ?_
  refine A.tn ?_
  refine A.seq ?_
  refine A.block ?_
  refine A.seq ?_
  refine A.region (A.goA [.p, .p, .p, .p] [(0, (p_ bs)), (1, (i_ ci)), (2, (u_ dn)), (3, (i_ nb)), (4, (b_ rl)), (10, (i_ 0)), (14, (b_ false)), (11, (.slice (((mget cv ci).getD sl0).sa) (((mget cv ci).getD sl0).sx.length) (((mget cv ci).getD sl0).sc))), (21, (b_ ((((mget cv ci).getD sl0).sx.length : Int) == 0)))] [] T0 (by kernel_rfl) trivial ?_)
  refine A.tn ?_
  refine A.cond (E := (((mget cv ci).getD sl0).sx.length : Int) == 0) rfl (fun e1 => ?_) (fun e1 => ?_)
  · skip
    have p1 := e1; try simp only [decide_eq_true_eq, decide_eq_false_iff_not, beq_iff_eq, beq_eq_false_iff_ne, bne_iff_ne, bne_eq_false_iff_eq, ne_eq, Bool.and_eq_true, Bool.or_eq_true, Bool.or_eq_false_iff, Bool.not_eq_true', Bool.not_eq_false', Int.not_lt, Int.not_le, gt_iff_lt, ge_iff_le, Classical.not_not] at p1
    refine A.seq ?_
    refine A.region (A.goA [.p] [(0, (p_ bs)), (1, (i_ ci)), (2, (u_ dn)), (3, (i_ nb)), (4, (b_ rl)), (10, (i_ 6)), (14, (b_ false)), (11, (.slice (((mget cv ci).getD sl0).sa) (((mget cv ci).getD sl0).sx.length) (((mget cv ci).getD sl0).sc))), (21, (b_ ((((mget cv ci).getD sl0).sx.length : Int) == 0)))] [] T0 (by kernel_rfl) trivial ?_)
    refine A.tn ?_
    refine A.ret ?_
    refine A.br ?_
    refine A.tr ?_
    refine A.postQ [(i_ 6)] (fun aa ww rr ss => ⟨rv_tmp rr rfl, trivial⟩) ?_
    show ((i_ 6) : Value) = (i_ (wentE cv ci dn nb))
    refine congrArg (Value.int .i64) ?_; first | exact (wentE_nil (by assumption)).symm | exact (wentE_short (by assumption) (by assumption)).symm | (rw [wentE_at (by assumption)]; first | (rw [if_pos (by omega)]; done) | (rw [if_neg (by omega), if_pos (by omega)]; done))
  · skip
    have p1 := e1; try simp only [decide_eq_true_eq, decide_eq_false_iff_not, beq_iff_eq, beq_eq_false_iff_ne, bne_iff_ne, bne_eq_false_iff_eq, ne_eq, Bool.and_eq_true, Bool.or_eq_true, Bool.or_eq_false_iff, Bool.not_eq_true', Bool.not_eq_false', Int.not_lt, Int.not_le, gt_iff_lt, ge_iff_le, Classical.not_not] at p1
    refine A.seq ?_
    refine A.region (A.goA [.p, .p, .p] [(0, (p_ bs)), (1, (i_ ci)), (2, (u_ dn)), (3, (i_ nb)), (4, (b_ rl)), (10, (i_ 0)), (14, (b_ false)), (11, (.slice (((mget cv ci).getD sl0).sa) (((mget cv ci).getD sl0).sx.length) (((mget cv ci).getD sl0).sc))), (21, (b_ ((((mget cv ci).getD sl0).sx.length : Int) == 0))), (25, (b_ (decide (nb < 1))))] [] T0 (by kernel_rfl) trivial ?_)
    refine A.tn ?_
    refine A.cond (E := decide (nb < 1)) rfl (fun e2 => ?_) (fun e2 => ?_)
    · skip
      have p2 := of_decide_eq_true e2
      refine A.seq ?_
      refine A.region (A.goA [.p] [(0, (p_ bs)), (1, (i_ ci)), (2, (u_ dn)), (3, (i_ nb)), (4, (b_ rl)), (10, (i_ 26)), (14, (b_ false)), (11, (.slice (((mget cv ci).getD sl0).sa) (((mget cv ci).getD sl0).sx.length) (((mget cv ci).getD sl0).sc))), (21, (b_ ((((mget cv ci).getD sl0).sx.length : Int) == 0))), (25, (b_ (decide (nb < 1))))] [] T0 (by kernel_rfl) trivial ?_)
      refine A.tn ?_
      refine A.ret ?_
      refine A.br ?_
      refine A.tr ?_
      refine A.postQ [(i_ 26)] (fun aa ww rr ss => ⟨rv_tmp rr rfl, trivial⟩) ?_
      show ((i_ 26) : Value) = (i_ (wentE cv ci dn nb))
      refine congrArg (Value.int .i64) ?_; first | exact (wentE_nil (by assumption)).symm | exact (wentE_short (by assumption) (by assumption)).symm | (rw [wentE_at (by assumption)]; first | (rw [if_pos (by omega)]; done) | (rw [if_neg (by omega), if_pos (by omega)]; done))
    · skip
      have p2 := of_decide_eq_false e2
      refine A.seq ?_
      refine A.region (A.goP [.p, .p, .ix] [(0, (p_ bs)), (1, (i_ ci)), (2, (u_ dn)), (3, (i_ nb)), (4, (b_ rl)), (10, (i_ 0)), (14, (b_ false)), (11, (.slice (((mget cv ci).getD sl0).sa) (((mget cv ci).getD sl0).sx.length) (((mget cv ci).getD sl0).sc))), (21, (b_ ((((mget cv ci).getD sl0).sx.length : Int) == 0))), (25, (b_ (decide (nb < 1)))), (29, (u_ dn)), (31, (.pointer (some ((at0 (((mget cv ci).getD sl0).sa)).add (0 * 1)))))] [] (fun κ => κ.ix (((mget cv ci).getD sl0).sa) (((mget cv ci).getD sl0).sx.length) (0 : Int) ∧ True) (by kernel_rfl) ⟨(ixOf encU_len (by decide) (rd_old (arr_sl (bag_get r2 ci)) (by simp [feet])) (by first | omega | (simp; omega) | (simp; done))), trivial⟩ ?_)
      obtain ⟨x1, hx1⟩ : ∃ x, (((mget cv ci).getD sl0).sx)[0]? = some x := ⟨_, List.getElem?_eq_getElem (by omega)⟩
      refine A.goA [.rd [(u_ x1)], .p, .p] [(0, (p_ bs)), (1, (i_ ci)), (2, (u_ dn)), (3, (i_ nb)), (4, (b_ rl)), (10, (i_ 0)), (14, (b_ false)), (11, (.slice (((mget cv ci).getD sl0).sa) (((mget cv ci).getD sl0).sx.length) (((mget cv ci).getD sl0).sc))), (21, (b_ ((((mget cv ci).getD sl0).sx.length : Int) == 0))), (25, (b_ (decide (nb < 1)))), (28, (b_ (decide (dn < x1))))] [] (fun κ => κ.rd ((at0 (((mget cv ci).getD sl0).sa)).add (0 * 1)) [(u_ x1)] ∧ True) (by kernel_rfl) ⟨(reads_at0 (vs := [(u_ x1)]) encU_len (rd_old (arr_sl (bag_get r2 ci)) (by simp [feet])) hx1 (by simp) rfl), trivial⟩ ?_
      refine A.tn ?_
      refine A.cond (E := decide (dn < x1)) rfl (fun e3 => ?_) (fun e3 => ?_)
      · skip
        have p3 := of_decide_eq_true e3
        refine A.seq ?_
        refine A.region (A.goA [.p] [(0, (p_ bs)), (1, (i_ ci)), (2, (u_ dn)), (3, (i_ nb)), (4, (b_ rl)), (10, (i_ 27)), (14, (b_ false)), (11, (.slice (((mget cv ci).getD sl0).sa) (((mget cv ci).getD sl0).sx.length) (((mget cv ci).getD sl0).sc))), (21, (b_ ((((mget cv ci).getD sl0).sx.length : Int) == 0))), (25, (b_ (decide (nb < 1)))), (28, (b_ (decide (dn < x1))))] [] T0 (by kernel_rfl) trivial ?_)
        refine A.tn ?_
        refine A.ret ?_
        refine A.br ?_
        refine A.tr ?_
        refine A.postQ [(i_ 27)] (fun aa ww rr ss => ⟨rv_tmp rr rfl, trivial⟩) ?_
        show ((i_ 27) : Value) = (i_ (wentE cv ci dn nb))
        refine congrArg (Value.int .i64) ?_; first | exact (wentE_nil (by assumption)).symm | exact (wentE_short (by assumption) (by assumption)).symm | (rw [wentE_at (by assumption)]; first | (rw [if_pos (by omega)]; done) | (rw [if_neg (by omega), if_pos (by omega)]; done))
      · exact absurd e3 (by (intro h_; apply hw; rw [wentE_at (by assumption), if_neg (by omega), if_neg (by simp at h_; omega)]))

set_option maxHeartbeats 4000000 in
set_option maxRecDepth 100000 in
theorem st_went (bs mc mr : Nat) (cv : List (Int × SL)) (rv : List (Int × SR)) (ci dn nb : Int) (rl : Bool) (hw : wentE cv ci dn nb = 0) (w : World) (hs : HS w (feet [blk bs [(.map (some mc)), (.map (some mr))] 58, mapI (fun k : Int => i_ k) slV mc cv, bagI 27 encU cv, mapI (fun k : Int => i_ k) (fun y : SR => (.agg #[u_ y.sp, u_ y.sb, u_ y.sr, u_ y.sw, u_ y.sg])) mr rv]) [blk bs [(.map (some mc)), (.map (some mr))] 58, mapI (fun k : Int => i_ k) slV mc cv, bagI 27 encU cv, mapI (fun k : Int => i_ k) (fun y : SR => (.agg #[u_ y.sp, u_ y.sb, u_ y.sr, u_ y.sw, u_ y.sg])) mr rv] w) :
    Calls Try.prog 10 #[(p_ bs), (i_ ci), (u_ dn), (i_ nb), (b_ rl)] w fun e w' => ∃ zz, e = .returned ((fun (zz : Unit) => (i_ 0)) zz) ∧ (fun (zz : Unit) => True) zz ∧ Turn [blk bs [(.map (some mc)), (.map (some mr))] 58, mapI (fun k : Int => i_ k) slV mc cv, bagI 27 encU cv, mapI (fun k : Int => i_ k) (fun y : SR => (.agg #[u_ y.sp, u_ y.sb, u_ y.sr, u_ y.sw, u_ y.sg])) mr rv] ((fun (zz : Unit) => [blk bs [(.map (some mc)), (.map (some mr))] 58, mapI (fun k : Int => i_ k) slV mc (mput cv ci (cutSL ((mget cv ci).getD sl0))), bagI 27 encU (mput cv ci (cutSL ((mget cv ci).getD sl0))), mapI (fun k : Int => i_ k) (fun y : SR => (.agg #[u_ y.sp, u_ y.sb, u_ y.sr, u_ y.sw, u_ y.sg])) mr (mput rv ci (addR ((mget rv ci).getD sr0) (((mget cv ci).getD sl0).sx.headD 0) dn nb rl))]) zz) w w' := by
  have hpos := wentE_pos hw
  refine calls_of (args := [(p_ bs), (i_ ci), (u_ dn), (i_ nb), (b_ rl)]) (penv [(p_ bs), (i_ ci), (u_ dn), (i_ nb), (b_ rl)]) (feet [blk bs [(.map (some mc)), (.map (some mr))] 58, mapI (fun k : Int => i_ k) slV mc cv, bagI 27 encU cv, mapI (fun k : Int => i_ k) (fun y : SR => (.agg #[u_ y.sp, u_ y.sb, u_ y.sr, u_ y.sw, u_ y.sg])) mr rv]) [blk bs [(.map (some mc)), (.map (some mr))] 58, mapI (fun k : Int => i_ k) slV mc cv, bagI 27 encU cv, mapI (fun k : Int => i_ k) (fun y : SR => (.agg #[u_ y.sp, u_ y.sb, u_ y.sr, u_ y.sw, u_ y.sg])) mr rv] Try.func10 rfl rfl (look_penv _) hs ?_
  refine A.norm [(0, (p_ bs)), (1, (i_ ci)), (2, (u_ dn)), (3, (i_ nb)), (4, (b_ rl))] [blk bs [(.map (some mc)), (.map (some mr))] 58, mapI (fun k : Int => i_ k) slV mc cv, bagI 27 encU cv, mapI (fun k : Int => i_ k) (fun y : SR => (.agg #[u_ y.sp, u_ y.sb, u_ y.sr, u_ y.sw, u_ y.sg])) mr rv] (by exact ⟨rfl, rfl, rfl, rfl, rfl, trivial⟩) rfl ?_
  refine A.seq ?_
  refine A.region (A.goA [.p] [(0, (p_ bs)), (1, (i_ ci)), (2, (u_ dn)), (3, (i_ nb)), (4, (b_ rl)), (10, (i_ 0))] [] T0 (by kernel_rfl) trivial ?_)
  refine A.tn ?_
  refine A.seq ?_
  refine A.seq ?_
  refine A.region (A.goA [.p, .p] [(0, (p_ bs)), (1, (i_ ci)), (2, (u_ dn)), (3, (i_ nb)), (4, (b_ rl)), (10, (i_ 0)), (14, (b_ false))] [] T0 (by kernel_rfl) trivial ?_)
  refine A.tn ?_
  refine A.cond_f rfl ?_
  refine A.skip ?_
  refine A.tn ?_
  refine A.seq ?_
  refine A.region (A.goP [.p, .p, .p, .ld 0, .p] [(0, (p_ bs)), (1, (i_ ci)), (2, (u_ dn)), (3, (i_ nb)), (4, (b_ rl)), (10, (i_ 0)), (14, (b_ false)), (18, (.map (some mc))), (19, (i_ ci))] [bs] T0 (by kernel_rfl) trivial ?_)
  refine A.cons (A.q (some 20) (.slice (((mget cv ci).getD sl0).sa) (((mget cv ci).getD sl0).sx.length) (((mget cv ci).getD sl0).sc)) (by kernel_rfl) (qt_lookup (kt := 3) (et := 52) (enck := (fun k : Int => i_ k)) (encv := slV) (b := mc) (kv := cv) (k := ci) (d0 := sl0) (fun ww ss => ss.mem (i := 1) rfl) rfl rfl rfl (by kernel_rfl) keyOk_I (by kernel_rfl) rfl) ?_)
  refine A.goA [.p] [(0, (p_ bs)), (1, (i_ ci)), (2, (u_ dn)), (3, (i_ nb)), (4, (b_ rl)), (10, (i_ 0)), (14, (b_ false)), (11, (.slice (((mget cv ci).getD sl0).sa) (((mget cv ci).getD sl0).sx.length) (((mget cv ci).getD sl0).sc)))] [] T0 (by kernel_rfl) trivial ?_
  refine A.tn ?_
  refine A.seq ?_
  refine A.block ?_
  refine A.seq ?_
  refine A.region (A.goA [.p, .p, .p, .p] [(0, (p_ bs)), (1, (i_ ci)), (2, (u_ dn)), (3, (i_ nb)), (4, (b_ rl)), (10, (i_ 0)), (14, (b_ false)), (11, (.slice (((mget cv ci).getD sl0).sa) (((mget cv ci).getD sl0).sx.length) (((mget cv ci).getD sl0).sc))), (21, (b_ ((((mget cv ci).getD sl0).sx.length : Int) == 0)))] [] T0 (by kernel_rfl) trivial ?_)
  refine A.tn ?_
  refine A.cond (E := (((mget cv ci).getD sl0).sx.length : Int) == 0) rfl (fun e1 => ?_) (fun e1 => ?_)
  · exact absurd e1 (by (intro h_; have h2_ := wentE_pos hw; rw [beq_iff_eq] at h_; omega))
  · skip
    have p1 := e1; try simp only [decide_eq_true_eq, decide_eq_false_iff_not, beq_iff_eq, beq_eq_false_iff_ne, bne_iff_ne, bne_eq_false_iff_eq, ne_eq, Bool.and_eq_true, Bool.or_eq_true, Bool.or_eq_false_iff, Bool.not_eq_true', Bool.not_eq_false', Int.not_lt, Int.not_le, gt_iff_lt, ge_iff_le, Classical.not_not] at p1
    refine A.seq ?_
    refine A.region (A.goA [.p, .p, .p] [(0, (p_ bs)), (1, (i_ ci)), (2, (u_ dn)), (3, (i_ nb)), (4, (b_ rl)), (10, (i_ 0)), (14, (b_ false)), (11, (.slice (((mget cv ci).getD sl0).sa) (((mget cv ci).getD sl0).sx.length) (((mget cv ci).getD sl0).sc))), (21, (b_ ((((mget cv ci).getD sl0).sx.length : Int) == 0))), (25, (b_ (decide (nb < 1))))] [] T0 (by kernel_rfl) trivial ?_)
    refine A.tn ?_
    refine A.cond (E := decide (nb < 1)) rfl (fun e2 => ?_) (fun e2 => ?_)
    · exact absurd e2 (by (intro h_; have h2_ := wentE_pos hw; obtain ⟨x_, hx_⟩ : ∃ x, ((mget cv ci).getD sl0).sx[0]? = some x := ⟨_, List.getElem?_eq_getElem h2_⟩; rw [wentE_at hx_, if_pos (by simpa using h_)] at hw; omega))
    · skip
      have p2 := of_decide_eq_false e2
      refine A.seq ?_
      refine A.region (A.goP [.p, .p, .ix] [(0, (p_ bs)), (1, (i_ ci)), (2, (u_ dn)), (3, (i_ nb)), (4, (b_ rl)), (10, (i_ 0)), (14, (b_ false)), (11, (.slice (((mget cv ci).getD sl0).sa) (((mget cv ci).getD sl0).sx.length) (((mget cv ci).getD sl0).sc))), (21, (b_ ((((mget cv ci).getD sl0).sx.length : Int) == 0))), (25, (b_ (decide (nb < 1)))), (29, (u_ dn)), (31, (.pointer (some ((at0 (((mget cv ci).getD sl0).sa)).add (0 * 1)))))] [] (fun κ => κ.ix (((mget cv ci).getD sl0).sa) (((mget cv ci).getD sl0).sx.length) (0 : Int) ∧ True) (by kernel_rfl) ⟨(ixOf encU_len (by decide) (rd_bag 2 rfl ci) (by first | omega | (simp; omega) | (simp; done))), trivial⟩ ?_)
      obtain ⟨x1, hx1⟩ : ∃ x, (((mget cv ci).getD sl0).sx)[0]? = some x := ⟨_, List.getElem?_eq_getElem (by omega)⟩
      refine A.goA [.rd [(u_ x1)], .p, .p] [(0, (p_ bs)), (1, (i_ ci)), (2, (u_ dn)), (3, (i_ nb)), (4, (b_ rl)), (10, (i_ 0)), (14, (b_ false)), (11, (.slice (((mget cv ci).getD sl0).sa) (((mget cv ci).getD sl0).sx.length) (((mget cv ci).getD sl0).sc))), (21, (b_ ((((mget cv ci).getD sl0).sx.length : Int) == 0))), (25, (b_ (decide (nb < 1)))), (28, (b_ (decide (dn < x1))))] [] (fun κ => κ.rd ((at0 (((mget cv ci).getD sl0).sa)).add (0 * 1)) [(u_ x1)] ∧ True) (by kernel_rfl) ⟨(reads_at0 (vs := [(u_ x1)]) encU_len (rd_bag 2 rfl ci) hx1 (by simp) rfl), trivial⟩ ?_
      refine A.tn ?_
      refine A.cond (E := decide (dn < x1)) rfl (fun e3 => ?_) (fun e3 => ?_)
      · exact absurd e3 (by (intro h_; rw [wentE_at (by assumption), if_neg (by omega), if_pos (by simpa using h_)] at hw; omega))
      · skip
        have p3 := of_decide_eq_false e3
        refine A.skip ?_
        refine A.bn ?_
        refine A.tn ?_
        refine A.seq ?_
        refine A.region (A.goP [.p, .p, .p, .ld 0, .p] [(0, (p_ bs)), (1, (i_ ci)), (2, (u_ dn)), (3, (i_ nb)), (4, (b_ rl)), (10, (i_ 0)), (14, (b_ false)), (11, (.slice (((mget cv ci).getD sl0).sa) (((mget cv ci).getD sl0).sx.length) (((mget cv ci).getD sl0).sc))), (21, (b_ ((((mget cv ci).getD sl0).sx.length : Int) == 0))), (25, (b_ (decide (nb < 1)))), (28, (b_ (decide (dn < x1)))), (37, (.map (some mr))), (38, (i_ ci))] [bs] T0 (by kernel_rfl) trivial ?_)
        refine A.cons (A.q (some 39) (.agg #[(u_ (((mget rv ci).getD sr0).sp)), (u_ (((mget rv ci).getD sr0).sb)), (u_ (((mget rv ci).getD sr0).sr)), (u_ (((mget rv ci).getD sr0).sw)), (u_ (((mget rv ci).getD sr0).sg))]) (by kernel_rfl) (qt_lookup (kt := 3) (et := 39) (enck := (fun k : Int => i_ k)) (encv := (fun y : SR => (.agg #[u_ y.sp, u_ y.sb, u_ y.sr, u_ y.sw, u_ y.sg]))) (b := mr) (kv := rv) (k := ci) (d0 := sr0) (fun ww ss => ss.mem (i := 3) rfl) rfl rfl rfl (by kernel_rfl) keyOk_I (by kernel_rfl) rfl) ?_)
        refine A.goA1 [.al, .st 4] [0, 1, 2, 3, 4, 10, 14, 11, 21, 25, 28, 12] (fun b2 => [(0, (p_ bs)), (1, (i_ ci)), (2, (u_ dn)), (3, (i_ nb)), (4, (b_ rl)), (10, (i_ 0)), (14, (b_ false)), (11, (.slice (((mget cv ci).getD sl0).sa) (((mget cv ci).getD sl0).sx.length) (((mget cv ci).getD sl0).sc))), (21, (b_ ((((mget cv ci).getD sl0).sx.length : Int) == 0))), (25, (b_ (decide (nb < 1)))), (28, (b_ (decide (dn < x1)))), (12, (p_ b2))]) (fun b2 => [blk bs [(.map (some mc)), (.map (some mr))] 58, mapI (fun k : Int => i_ k) slV mc cv, bagI 27 encU cv, mapI (fun k : Int => i_ k) (fun y : SR => (.agg #[u_ y.sp, u_ y.sb, u_ y.sr, u_ y.sw, u_ y.sg])) mr rv, blk b2 [(u_ (((mget rv ci).getD sr0).sp)), (u_ (((mget rv ci).getD sr0).sb)), (u_ (((mget rv ci).getD sr0).sr)), (u_ (((mget rv ci).getD sr0).sw)), (u_ (((mget rv ci).getD sr0).sg))] 39]) (fun b2 => [b2]) (fun _ => T0) (fun _ => by kernel_rfl) (fun b2 => trivial) ?_
        intro b2
        refine A.tn ?_
        refine A.seq ?_
        refine A.region (A.goAS [.p, .ld 4, .p, .p, .st 4] [(0, (p_ bs)), (1, (i_ ci)), (2, (u_ dn)), (3, (i_ nb)), (4, (b_ rl)), (10, (i_ 0)), (14, (b_ false)), (11, (.slice (((mget cv ci).getD sl0).sa) (((mget cv ci).getD sl0).sx.length) (((mget cv ci).getD sl0).sc))), (21, (b_ ((((mget cv ci).getD sl0).sx.length : Int) == 0))), (25, (b_ (decide (nb < 1)))), (28, (b_ (decide (dn < x1)))), (12, (p_ b2))] [blk bs [(.map (some mc)), (.map (some mr))] 58, mapI (fun k : Int => i_ k) slV mc cv, bagI 27 encU cv, mapI (fun k : Int => i_ k) (fun y : SR => (.agg #[u_ y.sp, u_ y.sb, u_ y.sr, u_ y.sw, u_ y.sg])) mr rv, blk b2 [(u_ (IntKind.u64.wrap ((((mget rv ci).getD sr0).sp) + 1))), (u_ (((mget rv ci).getD sr0).sb)), (u_ (((mget rv ci).getD sr0).sr)), (u_ (((mget rv ci).getD sr0).sw)), (u_ (((mget rv ci).getD sr0).sg))] 39] [b2, b2] T0 (by kernel_rfl) trivial ?_)
        refine A.tn ?_
        refine A.seq ?_
        refine A.region (A.goAS [.p, .ld 4, .p, .p, .p, .p, .st 4] [(0, (p_ bs)), (1, (i_ ci)), (2, (u_ dn)), (3, (i_ nb)), (4, (b_ rl)), (10, (i_ 0)), (14, (b_ false)), (11, (.slice (((mget cv ci).getD sl0).sa) (((mget cv ci).getD sl0).sx.length) (((mget cv ci).getD sl0).sc))), (21, (b_ ((((mget cv ci).getD sl0).sx.length : Int) == 0))), (25, (b_ (decide (nb < 1)))), (28, (b_ (decide (dn < x1)))), (12, (p_ b2))] [blk bs [(.map (some mc)), (.map (some mr))] 58, mapI (fun k : Int => i_ k) slV mc cv, bagI 27 encU cv, mapI (fun k : Int => i_ k) (fun y : SR => (.agg #[u_ y.sp, u_ y.sb, u_ y.sr, u_ y.sw, u_ y.sg])) mr rv, blk b2 [(u_ (IntKind.u64.wrap ((((mget rv ci).getD sr0).sp) + 1))), (u_ (IntKind.u64.wrap ((((mget rv ci).getD sr0).sb) + (IntKind.u64.wrap (nb))))), (u_ (((mget rv ci).getD sr0).sr)), (u_ (((mget rv ci).getD sr0).sw)), (u_ (((mget rv ci).getD sr0).sg))] 39] [b2, b2] T0 (by kernel_rfl) trivial ?_)
        refine A.tn ?_
        refine A.seq ?_
        refine A.seq ?_
        refine A.region (A.goA [.p] [(0, (p_ bs)), (1, (i_ ci)), (2, (u_ dn)), (3, (i_ nb)), (4, (b_ rl)), (10, (i_ 0)), (14, (b_ false)), (11, (.slice (((mget cv ci).getD sl0).sa) (((mget cv ci).getD sl0).sx.length) (((mget cv ci).getD sl0).sc))), (21, (b_ ((((mget cv ci).getD sl0).sx.length : Int) == 0))), (25, (b_ (decide (nb < 1)))), (28, (b_ (decide (dn < x1)))), (12, (p_ b2)), (50, (b_ rl))] [] T0 (by kernel_rfl) trivial ?_)
        refine A.tn ?_
        refine A.cond (E := rl) rfl (fun e4 => ?_) (fun e4 => ?_)
        · skip
          have p4 := e4; try simp only [decide_eq_true_eq, decide_eq_false_iff_not, beq_iff_eq, beq_eq_false_iff_ne, bne_iff_ne, bne_eq_false_iff_eq, ne_eq, Bool.and_eq_true, Bool.or_eq_true, Bool.or_eq_false_iff, Bool.not_eq_true', Bool.not_eq_false', Int.not_lt, Int.not_le, gt_iff_lt, ge_iff_le, Classical.not_not] at p4
          refine A.region (A.goAS [.p, .ld 4, .p, .p, .st 4] [(0, (p_ bs)), (1, (i_ ci)), (2, (u_ dn)), (3, (i_ nb)), (4, (b_ rl)), (10, (i_ 0)), (14, (b_ false)), (11, (.slice (((mget cv ci).getD sl0).sa) (((mget cv ci).getD sl0).sx.length) (((mget cv ci).getD sl0).sc))), (21, (b_ ((((mget cv ci).getD sl0).sx.length : Int) == 0))), (25, (b_ (decide (nb < 1)))), (28, (b_ (decide (dn < x1)))), (12, (p_ b2)), (50, (b_ rl))] [blk bs [(.map (some mc)), (.map (some mr))] 58, mapI (fun k : Int => i_ k) slV mc cv, bagI 27 encU cv, mapI (fun k : Int => i_ k) (fun y : SR => (.agg #[u_ y.sp, u_ y.sb, u_ y.sr, u_ y.sw, u_ y.sg])) mr rv, blk b2 [(u_ (IntKind.u64.wrap ((((mget rv ci).getD sr0).sp) + 1))), (u_ (IntKind.u64.wrap ((((mget rv ci).getD sr0).sb) + (IntKind.u64.wrap (nb))))), (u_ (IntKind.u64.wrap ((((mget rv ci).getD sr0).sr) + 1))), (u_ (((mget rv ci).getD sr0).sw)), (u_ (((mget rv ci).getD sr0).sg))] 39] [b2, b2] T0 (by kernel_rfl) trivial ?_)
          refine A.tn ?_
          refine A.seq ?_
          refine A.draw2 [9] 10 (by kernel_rfl) ?_
          refine A.drawP 1 [.p, .ld 4, .p, .p, .ix, .rd [(u_ x1)], .p, .p, .p] [0, 1, 2, 3, 4, 5, 6, 7, 8] [(0, (p_ bs)), (1, (i_ ci)), (2, (u_ dn)), (3, (i_ nb)), (4, (b_ rl)), (10, (i_ 0)), (14, (b_ false)), (11, (.slice (((mget cv ci).getD sl0).sa) (((mget cv ci).getD sl0).sx.length) (((mget cv ci).getD sl0).sc))), (21, (b_ ((((mget cv ci).getD sl0).sx.length : Int) == 0))), (25, (b_ (decide (nb < 1)))), (28, (b_ (decide (dn < x1)))), (12, (p_ b2)), (50, (b_ rl)), (62, (u_ (IntKind.u64.wrap ((((mget rv ci).getD sr0).sw) + (IntKind.u64.wrap (dn - x1)))))), (63, (q_ b2 3))] [b2] (fun κ => κ.ix (((mget cv ci).getD sl0).sa) (((mget cv ci).getD sl0).sx.length) (0 : Int) ∧ κ.rd ((at0 (((mget cv ci).getD sl0).sa)).add (0 * 1)) [(u_ x1)] ∧ True) (by kernel_rfl) ⟨(ixOf encU_len (by decide) (rd_bag 2 rfl ci) (by first | omega | (simp; omega) | (simp; done))), (reads_at0 (vs := [(u_ x1)]) encU_len (rd_bag 2 rfl ci) hx1 (by simp) rfl), trivial⟩ ?_
          refine A.only2 9 rfl (by kernel_rfl) (A.store 4 (vs := [(u_ (IntKind.u64.wrap ((((mget rv ci).getD sr0).sw) + (IntKind.u64.wrap (dn - x1)))))]) [blk bs [(.map (some mc)), (.map (some mr))] 58, mapI (fun k : Int => i_ k) slV mc cv, bagI 27 encU cv, mapI (fun k : Int => i_ k) (fun y : SR => (.agg #[u_ y.sp, u_ y.sb, u_ y.sr, u_ y.sw, u_ y.sg])) mr rv, blk b2 [(u_ (IntKind.u64.wrap ((((mget rv ci).getD sr0).sp) + 1))), (u_ (IntKind.u64.wrap ((((mget rv ci).getD sr0).sb) + (IntKind.u64.wrap (nb))))), (u_ (IntKind.u64.wrap ((((mget rv ci).getD sr0).sr) + 1))), (u_ (IntKind.u64.wrap ((((mget rv ci).getD sr0).sw) + (IntKind.u64.wrap (dn - x1))))), (u_ (((mget rv ci).getD sr0).sg))] 39] (by kernel_rfl) rfl rfl rfl rfl (by kernel_rfl) rfl rfl (by kernel_rfl) rfl ?_)
          refine A.stage ?_
          refine A.fin2 (by kernel_rfl) ?_
          refine A.sub [(0, (p_ bs)), (1, (i_ ci)), (2, (u_ dn)), (3, (i_ nb)), (4, (b_ rl)), (10, (i_ 0)), (14, (b_ false)), (11, (.slice (((mget cv ci).getD sl0).sa) (((mget cv ci).getD sl0).sx.length) (((mget cv ci).getD sl0).sc))), (21, (b_ ((((mget cv ci).getD sl0).sx.length : Int) == 0))), (25, (b_ (decide (nb < 1)))), (28, (b_ (decide (dn < x1)))), (12, (p_ b2)), (50, (b_ rl))] (by exact ⟨rfl, rfl, rfl, rfl, rfl, rfl, rfl, rfl, rfl, rfl, rfl, rfl, rfl, trivial⟩) ?_
          refine A.tn ?_
          refine A.seq ?_
          refine A.draw2 [9] 10 (by kernel_rfl) ?_
          refine A.drawP 1 [.p, .ld 4, .p, .p, .ix, .rd [(u_ x1)], .p, .p, .p] [0, 1, 2, 3, 4, 5, 6, 7, 8] [(0, (p_ bs)), (1, (i_ ci)), (2, (u_ dn)), (3, (i_ nb)), (4, (b_ rl)), (10, (i_ 0)), (14, (b_ false)), (11, (.slice (((mget cv ci).getD sl0).sa) (((mget cv ci).getD sl0).sx.length) (((mget cv ci).getD sl0).sc))), (21, (b_ ((((mget cv ci).getD sl0).sx.length : Int) == 0))), (25, (b_ (decide (nb < 1)))), (28, (b_ (decide (dn < x1)))), (12, (p_ b2)), (50, (b_ rl)), (71, (u_ (imax (((mget rv ci).getD sr0).sg) (IntKind.u64.wrap (dn - x1))))), (72, (q_ b2 4))] [b2] (fun κ => κ.ix (((mget cv ci).getD sl0).sa) (((mget cv ci).getD sl0).sx.length) (0 : Int) ∧ κ.rd ((at0 (((mget cv ci).getD sl0).sa)).add (0 * 1)) [(u_ x1)] ∧ True) (by kernel_rfl) ⟨(ixOf encU_len (by decide) (rd_bag 2 rfl ci) (by first | omega | (simp; omega) | (simp; done))), (reads_at0 (vs := [(u_ x1)]) encU_len (rd_bag 2 rfl ci) hx1 (by simp) rfl), trivial⟩ ?_
          refine A.only2 9 rfl (by kernel_rfl) (A.store 4 (vs := [(u_ (imax (((mget rv ci).getD sr0).sg) (IntKind.u64.wrap (dn - x1))))]) [blk bs [(.map (some mc)), (.map (some mr))] 58, mapI (fun k : Int => i_ k) slV mc cv, bagI 27 encU cv, mapI (fun k : Int => i_ k) (fun y : SR => (.agg #[u_ y.sp, u_ y.sb, u_ y.sr, u_ y.sw, u_ y.sg])) mr rv, blk b2 [(u_ (IntKind.u64.wrap ((((mget rv ci).getD sr0).sp) + 1))), (u_ (IntKind.u64.wrap ((((mget rv ci).getD sr0).sb) + (IntKind.u64.wrap (nb))))), (u_ (IntKind.u64.wrap ((((mget rv ci).getD sr0).sr) + 1))), (u_ (IntKind.u64.wrap ((((mget rv ci).getD sr0).sw) + (IntKind.u64.wrap (dn - x1))))), (u_ (imax (((mget rv ci).getD sr0).sg) (IntKind.u64.wrap (dn - x1))))] 39] (by kernel_rfl) rfl rfl rfl rfl (by kernel_rfl) rfl rfl (by kernel_rfl) rfl ?_)
          refine A.stage ?_
          refine A.fin2 (by kernel_rfl) ?_
          refine A.sub [(0, (p_ bs)), (1, (i_ ci)), (2, (u_ dn)), (3, (i_ nb)), (4, (b_ rl)), (10, (i_ 0)), (14, (b_ false)), (11, (.slice (((mget cv ci).getD sl0).sa) (((mget cv ci).getD sl0).sx.length) (((mget cv ci).getD sl0).sc))), (21, (b_ ((((mget cv ci).getD sl0).sx.length : Int) == 0))), (25, (b_ (decide (nb < 1)))), (28, (b_ (decide (dn < x1)))), (12, (p_ b2)), (50, (b_ rl))] (by exact ⟨rfl, rfl, rfl, rfl, rfl, rfl, rfl, rfl, rfl, rfl, rfl, rfl, rfl, trivial⟩) ?_
          refine A.tn ?_
          refine A.seq ?_
          refine A.draw2 [6] 7 (by kernel_rfl) ?_
          refine A.drawP 1 [.p, .p, .p, .ld 0, .p, .ld 4] [0, 1, 2, 3, 4, 5] [(0, (p_ bs)), (1, (i_ ci)), (2, (u_ dn)), (3, (i_ nb)), (4, (b_ rl)), (10, (i_ 0)), (14, (b_ false)), (11, (.slice (((mget cv ci).getD sl0).sa) (((mget cv ci).getD sl0).sx.length) (((mget cv ci).getD sl0).sc))), (21, (b_ ((((mget cv ci).getD sl0).sx.length : Int) == 0))), (25, (b_ (decide (nb < 1)))), (28, (b_ (decide (dn < x1)))), (12, (p_ b2)), (50, (b_ rl)), (76, (.map (some mr))), (77, (i_ ci)), (78, (.agg #[(u_ (IntKind.u64.wrap ((((mget rv ci).getD sr0).sp) + 1))), (u_ (IntKind.u64.wrap ((((mget rv ci).getD sr0).sb) + (IntKind.u64.wrap (nb))))), (u_ (IntKind.u64.wrap ((((mget rv ci).getD sr0).sr) + 1))), (u_ (IntKind.u64.wrap ((((mget rv ci).getD sr0).sw) + (IntKind.u64.wrap (dn - x1))))), (u_ (imax (((mget rv ci).getD sr0).sg) (IntKind.u64.wrap (dn - x1))))]))] [bs, b2] T0 (by kernel_rfl) trivial ?_
          refine A.only2 6 rfl (by kernel_rfl) (A.mapPut (kt := 3) (et := 39) (enck := (fun k : Int => i_ k)) (encv := (fun y : SR => (.agg #[u_ y.sp, u_ y.sb, u_ y.sr, u_ y.sw, u_ y.sg]))) (kv := rv) (k := ci) 3 (⟨IntKind.u64.wrap ((((mget rv ci).getD sr0).sp) + 1), IntKind.u64.wrap ((((mget rv ci).getD sr0).sb) + (IntKind.u64.wrap (nb))), IntKind.u64.wrap ((((mget rv ci).getD sr0).sr) + 1), IntKind.u64.wrap ((((mget rv ci).getD sr0).sw) + (IntKind.u64.wrap (dn - x1))), imax (((mget rv ci).getD sr0).sg) (IntKind.u64.wrap (dn - x1))⟩ : SR) [blk bs [(.map (some mc)), (.map (some mr))] 58, mapI (fun k : Int => i_ k) slV mc cv, bagI 27 encU cv, mapI (fun k : Int => i_ k) (fun y : SR => (.agg #[u_ y.sp, u_ y.sb, u_ y.sr, u_ y.sw, u_ y.sg])) mr (mput rv ci (⟨IntKind.u64.wrap ((((mget rv ci).getD sr0).sp) + 1), IntKind.u64.wrap ((((mget rv ci).getD sr0).sb) + (IntKind.u64.wrap (nb))), IntKind.u64.wrap ((((mget rv ci).getD sr0).sr) + 1), IntKind.u64.wrap ((((mget rv ci).getD sr0).sw) + (IntKind.u64.wrap (dn - x1))), imax (((mget rv ci).getD sr0).sg) (IntKind.u64.wrap (dn - x1))⟩ : SR)), blk b2 [(u_ (IntKind.u64.wrap ((((mget rv ci).getD sr0).sp) + 1))), (u_ (IntKind.u64.wrap ((((mget rv ci).getD sr0).sb) + (IntKind.u64.wrap (nb))))), (u_ (IntKind.u64.wrap ((((mget rv ci).getD sr0).sr) + 1))), (u_ (IntKind.u64.wrap ((((mget rv ci).getD sr0).sw) + (IntKind.u64.wrap (dn - x1))))), (u_ (imax (((mget rv ci).getD sr0).sg) (IntKind.u64.wrap (dn - x1))))] 39] (by kernel_rfl) rfl rfl rfl rfl (by kernel_rfl) keyOk_I rfl rfl ?_)
          refine A.stage ?_
          refine A.fin2 (by kernel_rfl) ?_
          refine A.sub [(0, (p_ bs)), (1, (i_ ci)), (2, (u_ dn)), (3, (i_ nb)), (4, (b_ rl)), (10, (i_ 0)), (14, (b_ false)), (11, (.slice (((mget cv ci).getD sl0).sa) (((mget cv ci).getD sl0).sx.length) (((mget cv ci).getD sl0).sc))), (21, (b_ ((((mget cv ci).getD sl0).sx.length : Int) == 0))), (25, (b_ (decide (nb < 1)))), (28, (b_ (decide (dn < x1)))), (12, (p_ b2)), (50, (b_ rl))] (by exact ⟨rfl, rfl, rfl, rfl, rfl, rfl, rfl, rfl, rfl, rfl, rfl, rfl, rfl, trivial⟩) ?_
          refine A.tn ?_
          refine A.seq ?_
          refine A.draw2 [7] 8 (by kernel_rfl) ?_
          refine A.drawP 2 [.p, .p, .p, .ld 0, .p, .p] [0, 1, 2, 3, 4, 5] [(0, (p_ bs)), (1, (i_ ci)), (2, (u_ dn)), (3, (i_ nb)), (4, (b_ rl)), (10, (i_ 0)), (14, (b_ false)), (11, (.slice (((mget cv ci).getD sl0).sa) (((mget cv ci).getD sl0).sx.length) (((mget cv ci).getD sl0).sc))), (21, (b_ ((((mget cv ci).getD sl0).sx.length : Int) == 0))), (25, (b_ (decide (nb < 1)))), (28, (b_ (decide (dn < x1)))), (12, (p_ b2)), (50, (b_ rl)), (82, (.map (some mc))), (83, (i_ ci)), (84, (.slice (((mget cv ci).getD sl0).sa) (((mget cv ci).getD sl0).sx.length) (((mget cv ci).getD sl0).sc)))] [bs] T0 (by kernel_rfl) trivial ?_
          refine A.take2 6 (some 85) (.slice (cutA (((mget cv ci).getD sl0).sa) (((mget cv ci).getD sl0).sc) 1 1) (((((mget cv ci).getD sl0).sx).drop 1).length) (((mget cv ci).getD sl0).sc - 1)) rfl (by kernel_rfl) (by kernel_rfl) (qt_dropS (e := 27) (xs := (((mget cv ci).getD sl0).sx)) (sz := 1) 1 rfl rfl rfl (by kernel_rfl) (by kernel_rfl) (by omega) (bag_capS 2 rfl ci)) ?_
          refine A.only2 7 rfl (by kernel_rfl) (A.mapPut (kt := 3) (et := 52) (enck := (fun k : Int => i_ k)) (encv := slV) (kv := cv) (k := ci) 1 ⟨(cutA (((mget cv ci).getD sl0).sa) (((mget cv ci).getD sl0).sc) 1 1), (((mget cv ci).getD sl0).sc - 1), ((((mget cv ci).getD sl0).sx).drop 1)⟩ [blk bs [(.map (some mc)), (.map (some mr))] 58, mapI (fun k : Int => i_ k) slV mc (mput cv ci ⟨(cutA (((mget cv ci).getD sl0).sa) (((mget cv ci).getD sl0).sc) 1 1), (((mget cv ci).getD sl0).sc - 1), ((((mget cv ci).getD sl0).sx).drop 1)⟩), bagI 27 encU cv, mapI (fun k : Int => i_ k) (fun y : SR => (.agg #[u_ y.sp, u_ y.sb, u_ y.sr, u_ y.sw, u_ y.sg])) mr (mput rv ci (⟨IntKind.u64.wrap ((((mget rv ci).getD sr0).sp) + 1), IntKind.u64.wrap ((((mget rv ci).getD sr0).sb) + (IntKind.u64.wrap (nb))), IntKind.u64.wrap ((((mget rv ci).getD sr0).sr) + 1), IntKind.u64.wrap ((((mget rv ci).getD sr0).sw) + (IntKind.u64.wrap (dn - x1))), imax (((mget rv ci).getD sr0).sg) (IntKind.u64.wrap (dn - x1))⟩ : SR)), blk b2 [(u_ (IntKind.u64.wrap ((((mget rv ci).getD sr0).sp) + 1))), (u_ (IntKind.u64.wrap ((((mget rv ci).getD sr0).sb) + (IntKind.u64.wrap (nb))))), (u_ (IntKind.u64.wrap ((((mget rv ci).getD sr0).sr) + 1))), (u_ (IntKind.u64.wrap ((((mget rv ci).getD sr0).sw) + (IntKind.u64.wrap (dn - x1))))), (u_ (imax (((mget rv ci).getD sr0).sg) (IntKind.u64.wrap (dn - x1))))] 39] (by kernel_rfl) rfl rfl rfl rfl (by kernel_rfl) keyOk_I rfl rfl ?_)
          refine A.reshape [2] (fun _ : Unit => True) (fun _ => [bagI 27 encU (mput cv ci ⟨(cutA (((mget cv ci).getD sl0).sa) (((mget cv ci).getD sl0).sc) 1 1), (((mget cv ci).getD sl0).sc - 1), ((((mget cv ci).getD sl0).sx).drop 1)⟩)]) (fun _ => [bagI 27 encU (mput cv ci ⟨(cutA (((mget cv ci).getD sl0).sa) (((mget cv ci).getD sl0).sc) 1 1), (((mget cv ci).getD sl0).sc - 1), ((((mget cv ci).getD sl0).sx).drop 1)⟩), blk bs [(.map (some mc)), (.map (some mr))] 58, mapI (fun k : Int => i_ k) slV mc (mput cv ci ⟨(cutA (((mget cv ci).getD sl0).sa) (((mget cv ci).getD sl0).sc) 1 1), (((mget cv ci).getD sl0).sc - 1), ((((mget cv ci).getD sl0).sx).drop 1)⟩), mapI (fun k : Int => i_ k) (fun y : SR => (.agg #[u_ y.sp, u_ y.sb, u_ y.sr, u_ y.sw, u_ y.sg])) mr (mput rv ci (⟨IntKind.u64.wrap ((((mget rv ci).getD sr0).sp) + 1), IntKind.u64.wrap ((((mget rv ci).getD sr0).sb) + (IntKind.u64.wrap (nb))), IntKind.u64.wrap ((((mget rv ci).getD sr0).sr) + 1), IntKind.u64.wrap ((((mget rv ci).getD sr0).sw) + (IntKind.u64.wrap (dn - x1))), imax (((mget rv ci).getD sr0).sg) (IntKind.u64.wrap (dn - x1))⟩ : SR)), blk b2 [(u_ (IntKind.u64.wrap ((((mget rv ci).getD sr0).sp) + 1))), (u_ (IntKind.u64.wrap ((((mget rv ci).getD sr0).sb) + (IntKind.u64.wrap (nb))))), (u_ (IntKind.u64.wrap ((((mget rv ci).getD sr0).sr) + 1))), (u_ (IntKind.u64.wrap ((((mget rv ci).getD sr0).sw) + (IntKind.u64.wrap (dn - x1))))), (u_ (imax (((mget rv ci).getD sr0).sg) (IntKind.u64.wrap (dn - x1))))] 39]) rfl (fun w hs => bag_cut (fun _ => rfl) cv ci (by omega) hs) (fun _ => rfl) (fun _ _ => ?_)
          refine A.stage ?_
          refine A.fin2 (by kernel_rfl) ?_
          refine A.sub [(0, (p_ bs)), (1, (i_ ci)), (2, (u_ dn)), (3, (i_ nb)), (4, (b_ rl)), (10, (i_ 0)), (14, (b_ false)), (11, (.slice (((mget cv ci).getD sl0).sa) (((mget cv ci).getD sl0).sx.length) (((mget cv ci).getD sl0).sc))), (21, (b_ ((((mget cv ci).getD sl0).sx.length : Int) == 0))), (25, (b_ (decide (nb < 1)))), (28, (b_ (decide (dn < x1)))), (12, (p_ b2)), (50, (b_ rl))] (by exact ⟨rfl, rfl, rfl, rfl, rfl, rfl, rfl, rfl, rfl, rfl, rfl, rfl, rfl, trivial⟩) ?_
          refine A.tn ?_
          refine A.seq ?_
          refine A.region (A.goA [.p] [(0, (p_ bs)), (1, (i_ ci)), (2, (u_ dn)), (3, (i_ nb)), (4, (b_ rl)), (10, (i_ 0)), (14, (b_ false)), (11, (.slice (((mget cv ci).getD sl0).sa) (((mget cv ci).getD sl0).sx.length) (((mget cv ci).getD sl0).sc))), (21, (b_ ((((mget cv ci).getD sl0).sx.length : Int) == 0))), (25, (b_ (decide (nb < 1)))), (28, (b_ (decide (dn < x1)))), (12, (p_ b2)), (50, (b_ rl))] [] T0 (by kernel_rfl) trivial ?_)
          refine A.tn ?_
          refine A.ret ?_
          rw [show mput cv ci ⟨(cutA (((mget cv ci).getD sl0).sa) (((mget cv ci).getD sl0).sc) 1 1), (((mget cv ci).getD sl0).sc - 1), ((((mget cv ci).getD sl0).sx).drop 1)⟩ = (mput cv ci (cutSL ((mget cv ci).getD sl0))) from by first | rfl | (unfold addR; rw [headD_at (by assumption)]; simp_all; done) | (unfold cutSL; rfl)]
          rw [show mput rv ci (⟨IntKind.u64.wrap ((((mget rv ci).getD sr0).sp) + 1), IntKind.u64.wrap ((((mget rv ci).getD sr0).sb) + (IntKind.u64.wrap (nb))), IntKind.u64.wrap ((((mget rv ci).getD sr0).sr) + 1), IntKind.u64.wrap ((((mget rv ci).getD sr0).sw) + (IntKind.u64.wrap (dn - x1))), imax (((mget rv ci).getD sr0).sg) (IntKind.u64.wrap (dn - x1))⟩ : SR) = (mput rv ci (addR ((mget rv ci).getD sr0) (((mget cv ci).getD sl0).sx.headD 0) dn nb rl)) from by first | rfl | (unfold addR; rw [headD_at (by assumption)]; simp_all; done) | (unfold cutSL; rfl)]
          refine A.postK [1, 1, 0, 0] [(i_ 0)] (fun aa ww rr ss => ⟨rv_tmp rr rfl, trivial⟩) () ?_ ?_ (by kernel_rfl)
          · rfl
          · trivial
        · skip
          have p4 := e4; try simp only [decide_eq_true_eq, decide_eq_false_iff_not, beq_iff_eq, beq_eq_false_iff_ne, bne_iff_ne, bne_eq_false_iff_eq, ne_eq, Bool.and_eq_true, Bool.or_eq_true, Bool.or_eq_false_iff, Bool.not_eq_true', Bool.not_eq_false', Int.not_lt, Int.not_le, gt_iff_lt, ge_iff_le, Classical.not_not] at p4
          refine A.skip ?_
          refine A.tn ?_
          refine A.seq ?_
          refine A.draw2 [9] 10 (by kernel_rfl) ?_
          refine A.drawP 1 [.p, .ld 4, .p, .p, .ix, .rd [(u_ x1)], .p, .p, .p] [0, 1, 2, 3, 4, 5, 6, 7, 8] [(0, (p_ bs)), (1, (i_ ci)), (2, (u_ dn)), (3, (i_ nb)), (4, (b_ rl)), (10, (i_ 0)), (14, (b_ false)), (11, (.slice (((mget cv ci).getD sl0).sa) (((mget cv ci).getD sl0).sx.length) (((mget cv ci).getD sl0).sc))), (21, (b_ ((((mget cv ci).getD sl0).sx.length : Int) == 0))), (25, (b_ (decide (nb < 1)))), (28, (b_ (decide (dn < x1)))), (12, (p_ b2)), (50, (b_ rl)), (62, (u_ (IntKind.u64.wrap ((((mget rv ci).getD sr0).sw) + (IntKind.u64.wrap (dn - x1)))))), (63, (q_ b2 3))] [b2] (fun κ => κ.ix (((mget cv ci).getD sl0).sa) (((mget cv ci).getD sl0).sx.length) (0 : Int) ∧ κ.rd ((at0 (((mget cv ci).getD sl0).sa)).add (0 * 1)) [(u_ x1)] ∧ True) (by kernel_rfl) ⟨(ixOf encU_len (by decide) (rd_bag 2 rfl ci) (by first | omega | (simp; omega) | (simp; done))), (reads_at0 (vs := [(u_ x1)]) encU_len (rd_bag 2 rfl ci) hx1 (by simp) rfl), trivial⟩ ?_
          refine A.only2 9 rfl (by kernel_rfl) (A.store 4 (vs := [(u_ (IntKind.u64.wrap ((((mget rv ci).getD sr0).sw) + (IntKind.u64.wrap (dn - x1)))))]) [blk bs [(.map (some mc)), (.map (some mr))] 58, mapI (fun k : Int => i_ k) slV mc cv, bagI 27 encU cv, mapI (fun k : Int => i_ k) (fun y : SR => (.agg #[u_ y.sp, u_ y.sb, u_ y.sr, u_ y.sw, u_ y.sg])) mr rv, blk b2 [(u_ (IntKind.u64.wrap ((((mget rv ci).getD sr0).sp) + 1))), (u_ (IntKind.u64.wrap ((((mget rv ci).getD sr0).sb) + (IntKind.u64.wrap (nb))))), (u_ (((mget rv ci).getD sr0).sr)), (u_ (IntKind.u64.wrap ((((mget rv ci).getD sr0).sw) + (IntKind.u64.wrap (dn - x1))))), (u_ (((mget rv ci).getD sr0).sg))] 39] (by kernel_rfl) rfl rfl rfl rfl (by kernel_rfl) rfl rfl (by kernel_rfl) rfl ?_)
          refine A.stage ?_
          refine A.fin2 (by kernel_rfl) ?_
          refine A.sub [(0, (p_ bs)), (1, (i_ ci)), (2, (u_ dn)), (3, (i_ nb)), (4, (b_ rl)), (10, (i_ 0)), (14, (b_ false)), (11, (.slice (((mget cv ci).getD sl0).sa) (((mget cv ci).getD sl0).sx.length) (((mget cv ci).getD sl0).sc))), (21, (b_ ((((mget cv ci).getD sl0).sx.length : Int) == 0))), (25, (b_ (decide (nb < 1)))), (28, (b_ (decide (dn < x1)))), (12, (p_ b2)), (50, (b_ rl))] (by exact ⟨rfl, rfl, rfl, rfl, rfl, rfl, rfl, rfl, rfl, rfl, rfl, rfl, rfl, trivial⟩) ?_
          refine A.tn ?_
          refine A.seq ?_
          refine A.draw2 [9] 10 (by kernel_rfl) ?_
          refine A.drawP 1 [.p, .ld 4, .p, .p, .ix, .rd [(u_ x1)], .p, .p, .p] [0, 1, 2, 3, 4, 5, 6, 7, 8] [(0, (p_ bs)), (1, (i_ ci)), (2, (u_ dn)), (3, (i_ nb)), (4, (b_ rl)), (10, (i_ 0)), (14, (b_ false)), (11, (.slice (((mget cv ci).getD sl0).sa) (((mget cv ci).getD sl0).sx.length) (((mget cv ci).getD sl0).sc))), (21, (b_ ((((mget cv ci).getD sl0).sx.length : Int) == 0))), (25, (b_ (decide (nb < 1)))), (28, (b_ (decide (dn < x1)))), (12, (p_ b2)), (50, (b_ rl)), (71, (u_ (imax (((mget rv ci).getD sr0).sg) (IntKind.u64.wrap (dn - x1))))), (72, (q_ b2 4))] [b2] (fun κ => κ.ix (((mget cv ci).getD sl0).sa) (((mget cv ci).getD sl0).sx.length) (0 : Int) ∧ κ.rd ((at0 (((mget cv ci).getD sl0).sa)).add (0 * 1)) [(u_ x1)] ∧ True) (by kernel_rfl) ⟨(ixOf encU_len (by decide) (rd_bag 2 rfl ci) (by first | omega | (simp; omega) | (simp; done))), (reads_at0 (vs := [(u_ x1)]) encU_len (rd_bag 2 rfl ci) hx1 (by simp) rfl), trivial⟩ ?_
          refine A.only2 9 rfl (by kernel_rfl) (A.store 4 (vs := [(u_ (imax (((mget rv ci).getD sr0).sg) (IntKind.u64.wrap (dn - x1))))]) [blk bs [(.map (some mc)), (.map (some mr))] 58, mapI (fun k : Int => i_ k) slV mc cv, bagI 27 encU cv, mapI (fun k : Int => i_ k) (fun y : SR => (.agg #[u_ y.sp, u_ y.sb, u_ y.sr, u_ y.sw, u_ y.sg])) mr rv, blk b2 [(u_ (IntKind.u64.wrap ((((mget rv ci).getD sr0).sp) + 1))), (u_ (IntKind.u64.wrap ((((mget rv ci).getD sr0).sb) + (IntKind.u64.wrap (nb))))), (u_ (((mget rv ci).getD sr0).sr)), (u_ (IntKind.u64.wrap ((((mget rv ci).getD sr0).sw) + (IntKind.u64.wrap (dn - x1))))), (u_ (imax (((mget rv ci).getD sr0).sg) (IntKind.u64.wrap (dn - x1))))] 39] (by kernel_rfl) rfl rfl rfl rfl (by kernel_rfl) rfl rfl (by kernel_rfl) rfl ?_)
          refine A.stage ?_
          refine A.fin2 (by kernel_rfl) ?_
          refine A.sub [(0, (p_ bs)), (1, (i_ ci)), (2, (u_ dn)), (3, (i_ nb)), (4, (b_ rl)), (10, (i_ 0)), (14, (b_ false)), (11, (.slice (((mget cv ci).getD sl0).sa) (((mget cv ci).getD sl0).sx.length) (((mget cv ci).getD sl0).sc))), (21, (b_ ((((mget cv ci).getD sl0).sx.length : Int) == 0))), (25, (b_ (decide (nb < 1)))), (28, (b_ (decide (dn < x1)))), (12, (p_ b2)), (50, (b_ rl))] (by exact ⟨rfl, rfl, rfl, rfl, rfl, rfl, rfl, rfl, rfl, rfl, rfl, rfl, rfl, trivial⟩) ?_
          refine A.tn ?_
          refine A.seq ?_
          refine A.draw2 [6] 7 (by kernel_rfl) ?_
          refine A.drawP 1 [.p, .p, .p, .ld 0, .p, .ld 4] [0, 1, 2, 3, 4, 5] [(0, (p_ bs)), (1, (i_ ci)), (2, (u_ dn)), (3, (i_ nb)), (4, (b_ rl)), (10, (i_ 0)), (14, (b_ false)), (11, (.slice (((mget cv ci).getD sl0).sa) (((mget cv ci).getD sl0).sx.length) (((mget cv ci).getD sl0).sc))), (21, (b_ ((((mget cv ci).getD sl0).sx.length : Int) == 0))), (25, (b_ (decide (nb < 1)))), (28, (b_ (decide (dn < x1)))), (12, (p_ b2)), (50, (b_ rl)), (76, (.map (some mr))), (77, (i_ ci)), (78, (.agg #[(u_ (IntKind.u64.wrap ((((mget rv ci).getD sr0).sp) + 1))), (u_ (IntKind.u64.wrap ((((mget rv ci).getD sr0).sb) + (IntKind.u64.wrap (nb))))), (u_ (((mget rv ci).getD sr0).sr)), (u_ (IntKind.u64.wrap ((((mget rv ci).getD sr0).sw) + (IntKind.u64.wrap (dn - x1))))), (u_ (imax (((mget rv ci).getD sr0).sg) (IntKind.u64.wrap (dn - x1))))]))] [bs, b2] T0 (by kernel_rfl) trivial ?_
          refine A.only2 6 rfl (by kernel_rfl) (A.mapPut (kt := 3) (et := 39) (enck := (fun k : Int => i_ k)) (encv := (fun y : SR => (.agg #[u_ y.sp, u_ y.sb, u_ y.sr, u_ y.sw, u_ y.sg]))) (kv := rv) (k := ci) 3 (⟨IntKind.u64.wrap ((((mget rv ci).getD sr0).sp) + 1), IntKind.u64.wrap ((((mget rv ci).getD sr0).sb) + (IntKind.u64.wrap (nb))), ((mget rv ci).getD sr0).sr, IntKind.u64.wrap ((((mget rv ci).getD sr0).sw) + (IntKind.u64.wrap (dn - x1))), imax (((mget rv ci).getD sr0).sg) (IntKind.u64.wrap (dn - x1))⟩ : SR) [blk bs [(.map (some mc)), (.map (some mr))] 58, mapI (fun k : Int => i_ k) slV mc cv, bagI 27 encU cv, mapI (fun k : Int => i_ k) (fun y : SR => (.agg #[u_ y.sp, u_ y.sb, u_ y.sr, u_ y.sw, u_ y.sg])) mr (mput rv ci (⟨IntKind.u64.wrap ((((mget rv ci).getD sr0).sp) + 1), IntKind.u64.wrap ((((mget rv ci).getD sr0).sb) + (IntKind.u64.wrap (nb))), ((mget rv ci).getD sr0).sr, IntKind.u64.wrap ((((mget rv ci).getD sr0).sw) + (IntKind.u64.wrap (dn - x1))), imax (((mget rv ci).getD sr0).sg) (IntKind.u64.wrap (dn - x1))⟩ : SR)), blk b2 [(u_ (IntKind.u64.wrap ((((mget rv ci).getD sr0).sp) + 1))), (u_ (IntKind.u64.wrap ((((mget rv ci).getD sr0).sb) + (IntKind.u64.wrap (nb))))), (u_ (((mget rv ci).getD sr0).sr)), (u_ (IntKind.u64.wrap ((((mget rv ci).getD sr0).sw) + (IntKind.u64.wrap (dn - x1))))), (u_ (imax (((mget rv ci).getD sr0).sg) (IntKind.u64.wrap (dn - x1))))] 39] (by kernel_rfl) rfl rfl rfl rfl (by kernel_rfl) keyOk_I rfl rfl ?_)
          refine A.stage ?_
          refine A.fin2 (by kernel_rfl) ?_
          refine A.sub [(0, (p_ bs)), (1, (i_ ci)), (2, (u_ dn)), (3, (i_ nb)), (4, (b_ rl)), (10, (i_ 0)), (14, (b_ false)), (11, (.slice (((mget cv ci).getD sl0).sa) (((mget cv ci).getD sl0).sx.length) (((mget cv ci).getD sl0).sc))), (21, (b_ ((((mget cv ci).getD sl0).sx.length : Int) == 0))), (25, (b_ (decide (nb < 1)))), (28, (b_ (decide (dn < x1)))), (12, (p_ b2)), (50, (b_ rl))] (by exact ⟨rfl, rfl, rfl, rfl, rfl, rfl, rfl, rfl, rfl, rfl, rfl, rfl, rfl, trivial⟩) ?_
          refine A.tn ?_
          refine A.seq ?_
          refine A.draw2 [7] 8 (by kernel_rfl) ?_
          refine A.drawP 2 [.p, .p, .p, .ld 0, .p, .p] [0, 1, 2, 3, 4, 5] [(0, (p_ bs)), (1, (i_ ci)), (2, (u_ dn)), (3, (i_ nb)), (4, (b_ rl)), (10, (i_ 0)), (14, (b_ false)), (11, (.slice (((mget cv ci).getD sl0).sa) (((mget cv ci).getD sl0).sx.length) (((mget cv ci).getD sl0).sc))), (21, (b_ ((((mget cv ci).getD sl0).sx.length : Int) == 0))), (25, (b_ (decide (nb < 1)))), (28, (b_ (decide (dn < x1)))), (12, (p_ b2)), (50, (b_ rl)), (82, (.map (some mc))), (83, (i_ ci)), (84, (.slice (((mget cv ci).getD sl0).sa) (((mget cv ci).getD sl0).sx.length) (((mget cv ci).getD sl0).sc)))] [bs] T0 (by kernel_rfl) trivial ?_
          refine A.take2 6 (some 85) (.slice (cutA (((mget cv ci).getD sl0).sa) (((mget cv ci).getD sl0).sc) 1 1) (((((mget cv ci).getD sl0).sx).drop 1).length) (((mget cv ci).getD sl0).sc - 1)) rfl (by kernel_rfl) (by kernel_rfl) (qt_dropS (e := 27) (xs := (((mget cv ci).getD sl0).sx)) (sz := 1) 1 rfl rfl rfl (by kernel_rfl) (by kernel_rfl) (by omega) (bag_capS 2 rfl ci)) ?_
          refine A.only2 7 rfl (by kernel_rfl) (A.mapPut (kt := 3) (et := 52) (enck := (fun k : Int => i_ k)) (encv := slV) (kv := cv) (k := ci) 1 ⟨(cutA (((mget cv ci).getD sl0).sa) (((mget cv ci).getD sl0).sc) 1 1), (((mget cv ci).getD sl0).sc - 1), ((((mget cv ci).getD sl0).sx).drop 1)⟩ [blk bs [(.map (some mc)), (.map (some mr))] 58, mapI (fun k : Int => i_ k) slV mc (mput cv ci ⟨(cutA (((mget cv ci).getD sl0).sa) (((mget cv ci).getD sl0).sc) 1 1), (((mget cv ci).getD sl0).sc - 1), ((((mget cv ci).getD sl0).sx).drop 1)⟩), bagI 27 encU cv, mapI (fun k : Int => i_ k) (fun y : SR => (.agg #[u_ y.sp, u_ y.sb, u_ y.sr, u_ y.sw, u_ y.sg])) mr (mput rv ci (⟨IntKind.u64.wrap ((((mget rv ci).getD sr0).sp) + 1), IntKind.u64.wrap ((((mget rv ci).getD sr0).sb) + (IntKind.u64.wrap (nb))), ((mget rv ci).getD sr0).sr, IntKind.u64.wrap ((((mget rv ci).getD sr0).sw) + (IntKind.u64.wrap (dn - x1))), imax (((mget rv ci).getD sr0).sg) (IntKind.u64.wrap (dn - x1))⟩ : SR)), blk b2 [(u_ (IntKind.u64.wrap ((((mget rv ci).getD sr0).sp) + 1))), (u_ (IntKind.u64.wrap ((((mget rv ci).getD sr0).sb) + (IntKind.u64.wrap (nb))))), (u_ (((mget rv ci).getD sr0).sr)), (u_ (IntKind.u64.wrap ((((mget rv ci).getD sr0).sw) + (IntKind.u64.wrap (dn - x1))))), (u_ (imax (((mget rv ci).getD sr0).sg) (IntKind.u64.wrap (dn - x1))))] 39] (by kernel_rfl) rfl rfl rfl rfl (by kernel_rfl) keyOk_I rfl rfl ?_)
          refine A.reshape [2] (fun _ : Unit => True) (fun _ => [bagI 27 encU (mput cv ci ⟨(cutA (((mget cv ci).getD sl0).sa) (((mget cv ci).getD sl0).sc) 1 1), (((mget cv ci).getD sl0).sc - 1), ((((mget cv ci).getD sl0).sx).drop 1)⟩)]) (fun _ => [bagI 27 encU (mput cv ci ⟨(cutA (((mget cv ci).getD sl0).sa) (((mget cv ci).getD sl0).sc) 1 1), (((mget cv ci).getD sl0).sc - 1), ((((mget cv ci).getD sl0).sx).drop 1)⟩), blk bs [(.map (some mc)), (.map (some mr))] 58, mapI (fun k : Int => i_ k) slV mc (mput cv ci ⟨(cutA (((mget cv ci).getD sl0).sa) (((mget cv ci).getD sl0).sc) 1 1), (((mget cv ci).getD sl0).sc - 1), ((((mget cv ci).getD sl0).sx).drop 1)⟩), mapI (fun k : Int => i_ k) (fun y : SR => (.agg #[u_ y.sp, u_ y.sb, u_ y.sr, u_ y.sw, u_ y.sg])) mr (mput rv ci (⟨IntKind.u64.wrap ((((mget rv ci).getD sr0).sp) + 1), IntKind.u64.wrap ((((mget rv ci).getD sr0).sb) + (IntKind.u64.wrap (nb))), ((mget rv ci).getD sr0).sr, IntKind.u64.wrap ((((mget rv ci).getD sr0).sw) + (IntKind.u64.wrap (dn - x1))), imax (((mget rv ci).getD sr0).sg) (IntKind.u64.wrap (dn - x1))⟩ : SR)), blk b2 [(u_ (IntKind.u64.wrap ((((mget rv ci).getD sr0).sp) + 1))), (u_ (IntKind.u64.wrap ((((mget rv ci).getD sr0).sb) + (IntKind.u64.wrap (nb))))), (u_ (((mget rv ci).getD sr0).sr)), (u_ (IntKind.u64.wrap ((((mget rv ci).getD sr0).sw) + (IntKind.u64.wrap (dn - x1))))), (u_ (imax (((mget rv ci).getD sr0).sg) (IntKind.u64.wrap (dn - x1))))] 39]) rfl (fun w hs => bag_cut (fun _ => rfl) cv ci (by omega) hs) (fun _ => rfl) (fun _ _ => ?_)
          refine A.stage ?_
          refine A.fin2 (by kernel_rfl) ?_
          refine A.sub [(0, (p_ bs)), (1, (i_ ci)), (2, (u_ dn)), (3, (i_ nb)), (4, (b_ rl)), (10, (i_ 0)), (14, (b_ false)), (11, (.slice (((mget cv ci).getD sl0).sa) (((mget cv ci).getD sl0).sx.length) (((mget cv ci).getD sl0).sc))), (21, (b_ ((((mget cv ci).getD sl0).sx.length : Int) == 0))), (25, (b_ (decide (nb < 1)))), (28, (b_ (decide (dn < x1)))), (12, (p_ b2)), (50, (b_ rl))] (by exact ⟨rfl, rfl, rfl, rfl, rfl, rfl, rfl, rfl, rfl, rfl, rfl, rfl, rfl, trivial⟩) ?_
          refine A.tn ?_
          refine A.seq ?_
          refine A.region (A.goA [.p] [(0, (p_ bs)), (1, (i_ ci)), (2, (u_ dn)), (3, (i_ nb)), (4, (b_ rl)), (10, (i_ 0)), (14, (b_ false)), (11, (.slice (((mget cv ci).getD sl0).sa) (((mget cv ci).getD sl0).sx.length) (((mget cv ci).getD sl0).sc))), (21, (b_ ((((mget cv ci).getD sl0).sx.length : Int) == 0))), (25, (b_ (decide (nb < 1)))), (28, (b_ (decide (dn < x1)))), (12, (p_ b2)), (50, (b_ rl))] [] T0 (by kernel_rfl) trivial ?_)
          refine A.tn ?_
          refine A.ret ?_
          rw [show mput cv ci ⟨(cutA (((mget cv ci).getD sl0).sa) (((mget cv ci).getD sl0).sc) 1 1), (((mget cv ci).getD sl0).sc - 1), ((((mget cv ci).getD sl0).sx).drop 1)⟩ = (mput cv ci (cutSL ((mget cv ci).getD sl0))) from by first | rfl | (unfold addR; rw [headD_at (by assumption)]; simp_all; done) | (unfold cutSL; rfl)]
          rw [show mput rv ci (⟨IntKind.u64.wrap ((((mget rv ci).getD sr0).sp) + 1), IntKind.u64.wrap ((((mget rv ci).getD sr0).sb) + (IntKind.u64.wrap (nb))), ((mget rv ci).getD sr0).sr, IntKind.u64.wrap ((((mget rv ci).getD sr0).sw) + (IntKind.u64.wrap (dn - x1))), imax (((mget rv ci).getD sr0).sg) (IntKind.u64.wrap (dn - x1))⟩ : SR) = (mput rv ci (addR ((mget rv ci).getD sr0) (((mget cv ci).getD sl0).sx.headD 0) dn nb rl)) from by first | rfl | (unfold addR; rw [headD_at (by assumption)]; simp_all; done) | (unfold cutSL; rfl)]
          refine A.postK [1, 1, 0, 0] [(i_ 0)] (fun aa ww rr ss => ⟨rv_tmp rr rfl, trivial⟩) () ?_ ?_ (by kernel_rfl)
          · rfl
          · trivial
end Go.Proofs.Ytlhchmmjkokamaa
