/- What the functions of this layer do, proved operation by operation, for all arguments, under the conditions that each theorem states. -/
import Derived.Test.YtpodcfadcdnllaaProg
import Derived.Test.YtpodcfadcdnllaaHier2
namespace Go.Proofs.Ytpodcfadcdnllaa
open Go V
set_option linter.unusedVariables false
set_option linter.unusedSimpArgs false
def gcl (kv : List (Int × Cl)) (k : Int) : Cl := (mget kv k).getD cl0
def gce (kv : List (Int × Cl)) (k : Int) : Int := if (mget kv k).isSome = true then 0 else 6
theorem gce_t {kv : List (Int × Cl)} {k : Int} (h : gce kv k = 0) : mget kv k ≠ none := by unfold gce at h; cases hm : mget kv k with | none => simp [hm] at h | some v => simp
theorem gce_f {kv : List (Int × Cl)} {k : Int} (h : gce kv k ≠ 0) : mget kv k = none := by unfold gce at h; cases hm : mget kv k with | none => rfl | some v => simp [hm] at h
def sharesH (kv : List (Int × Cl)) (k : Int) : Bool := k == 0 || decide ((ofC (gcl kv k).la (gcl kv k).lb (gcl kv k).lc) > 1)
/-- the class so far above -/
def upA (kv : List (Int × Cl)) (ci : Int) : Nat → Int
  | 0 => ci
  | k + 1 => (gcl kv (upA kv ci k)).hp
def upL (kv : List (Int × Cl)) (ci : Int) (k : Nat) : List Int := (List.range k).map (upA kv ci)
theorem upL_snoc (kv : List (Int × Cl)) (ci : Int) (k : Nat) : upL kv ci k ++ [upA kv ci k] = upL kv ci (k + 1) := by unfold upL; rw [List.range_succ]; simp
theorem up_end {kv : List (Int × Cl)} {ci : Int} {d k : Nat} (hd : ∀ j, j < d → mget kv (upA kv ci j) ≠ none) (hk : k ≤ d) (h : ¬gce kv (upA kv ci k) = 0) : k = d := by
  rcases Nat.lt_or_ge k d with h1 | h1
  · exact absurd (gce_f h) (hd k h1)
  · omega
theorem up_lt {kv : List (Int × Cl)} {ci : Int} {d k : Nat} (he : mget kv (upA kv ci d) = none) (hk : k ≤ d) (h : gce kv (upA kv ci k) = 0) : k < d := by
  rcases Nat.lt_or_ge k d with h1 | h1
  · exact h1
  · have : k = d := by omega
    subst this; exact absurd he (gce_t h)
theorem upL_len (kv : List (Int × Cl)) (ci : Int) (k : Nat) : (upL kv ci k).length = k := by simp [upL]

set_option maxHeartbeats 4000000 in
set_option maxRecDepth 100000 in
theorem get_nil (ci : Int) (w : World) :
    Calls Try.prog 10 #[n_, (i_ ci)] w fun e w' => e = .returned (.tuple #[(.agg #[(i_ 0), (i_ 0), (b_ false), (u_ 0), (u_ 0), (u_ 0), (u_ 0), (u_ 0), (u_ 0), (u_ 0), (u_ 0), (u_ 0), (i_ 0), (i_ 0)]), (i_ 7)]) ∧ Fr [] w w' := by
  refine calls_of (args := [n_, (i_ ci)]) (penv [n_, (i_ ci)]) [] [] Try.func10 rfl rfl (look_penv _) (HS.nil w) ?_
  refine A.norm [(0, n_), (1, (i_ ci))] [] (by exact ⟨rfl, rfl, trivial⟩) rfl ?_
  refine A.seq ?_
  refine A.region (A.goA1 [.al, .p] [0, 1, 4, 5] (fun b1 => [(0, n_), (1, (i_ ci)), (4, (p_ b1)), (5, (i_ 0))]) (fun b1 => [blk b1 [(i_ 0), (i_ 0), (b_ false), (u_ 0), (u_ 0), (u_ 0), (u_ 0), (u_ 0), (u_ 0), (u_ 0), (u_ 0), (u_ 0), (i_ 0), (i_ 0)] 30]) (fun b1 => []) (fun _ => T0) (fun _ => by kernel_rfl) (fun b1 => trivial) ?_)
  intro b1
  refine A.tn ?_
  refine A.seq ?_
  refine A.seq ?_
  refine A.region (A.goA [.p, .p] [(0, n_), (1, (i_ ci)), (4, (p_ b1)), (5, (i_ 0)), (9, (b_ true))] [] T0 (by kernel_rfl) trivial ?_)
  refine A.tn ?_
  refine A.cond_t rfl ?_
  refine A.seq ?_
  refine A.region (A.goAS [.p, .st 0, .p] [(0, n_), (1, (i_ ci)), (4, (p_ b1)), (5, (i_ 7)), (9, (b_ true))] [blk b1 [(i_ 0), (i_ 0), (b_ false), (u_ 0), (u_ 0), (u_ 0), (u_ 0), (u_ 0), (u_ 0), (u_ 0), (u_ 0), (u_ 0), (i_ 0), (i_ 0)] 30] [b1] T0 (by kernel_rfl) trivial ?_)
  refine A.tn ?_
  refine A.ret ?_
  refine A.tr ?_
  refine A.postQ [(.agg #[(i_ 0), (i_ 0), (b_ false), (u_ 0), (u_ 0), (u_ 0), (u_ 0), (u_ 0), (u_ 0), (u_ 0), (u_ 0), (u_ 0), (i_ 0), (i_ 0)]), (i_ 7)] (fun aa ww rr ss => ⟨rv_cellN (vs := [(i_ 0), (i_ 0), (b_ false), (u_ 0), (u_ 0), (u_ 0), (u_ 0), (u_ 0), (u_ 0), (u_ 0), (u_ 0), (u_ 0), (i_ 0), (i_ 0)]) rr ss rfl (by kernel_rfl) (reads_blk (i := 0) rfl rfl), rv_tmp rr rfl, trivial⟩) ?_
  rfl

set_option maxHeartbeats 4000000 in
set_option maxRecDepth 100000 in
theorem get_ok (bt mb : Nat) (kv : List (Int × Cl)) (ci : Int) (w : World) (r0 : (blk bt [(.map (some mb))] 55).holds w) (r1 : (mapI (fun k : Int => i_ k) (fun y : Cl => (.agg (encCl y).toArray)) mb kv).holds w) :
    Calls Try.prog 10 #[(p_ bt), (i_ ci)] w fun e w' => e = .returned (.tuple #[(.agg #[(i_ ((gcl kv ci).hi)), (i_ ((gcl kv ci).hp)), (b_ ((gcl kv ci).hl)), (u_ ((gcl kv ci).ra)), (u_ ((gcl kv ci).rb)), (u_ ((gcl kv ci).rc)), (u_ ((gcl kv ci).la)), (u_ ((gcl kv ci).lb)), (u_ ((gcl kv ci).lc)), (u_ ((gcl kv ci).ua)), (u_ ((gcl kv ci).ub)), (u_ ((gcl kv ci).uc)), (i_ ((gcl kv ci).hk)), (i_ ((gcl kv ci).hq))]), (i_ (gce kv ci))]) ∧ Fr [] w w' := by
  refine calls_of (args := [(p_ bt), (i_ ci)]) (penv [(p_ bt), (i_ ci)]) [] [] Try.func10 rfl rfl (look_penv _) (HS.nil w) ?_
  refine A.norm [(0, (p_ bt)), (1, (i_ ci))] [] (by exact ⟨rfl, rfl, trivial⟩) rfl ?_
  refine A.seq ?_
  refine A.region (A.goA1 [.al, .p] [0, 1, 4, 5] (fun b1 => [(0, (p_ bt)), (1, (i_ ci)), (4, (p_ b1)), (5, (i_ 0))]) (fun b1 => [blk b1 [(i_ 0), (i_ 0), (b_ false), (u_ 0), (u_ 0), (u_ 0), (u_ 0), (u_ 0), (u_ 0), (u_ 0), (u_ 0), (u_ 0), (i_ 0), (i_ 0)] 30]) (fun b1 => []) (fun _ => T0) (fun _ => by kernel_rfl) (fun b1 => trivial) ?_)
  intro b1
  refine A.tn ?_
  refine A.seq ?_
  refine A.seq ?_
  refine A.region (A.goA [.p, .p] [(0, (p_ bt)), (1, (i_ ci)), (4, (p_ b1)), (5, (i_ 0)), (9, (b_ false))] [] T0 (by kernel_rfl) trivial ?_)
  refine A.tn ?_
  refine A.cond_f rfl ?_
  refine A.skip ?_
  refine A.tn ?_
  refine A.seq ?_
  refine A.region (A.goP [.p, .p, .p, .rd [(.map (some mb))], .p] [(0, (p_ bt)), (1, (i_ ci)), (4, (p_ b1)), (5, (i_ 0)), (9, (b_ false)), (15, (.map (some mb))), (16, (i_ ci))] [] (fun κ => κ.rd ⟨bt, 0, none⟩ [(.map (some mb))] ∧ True) (by kernel_rfl) ⟨(reads_oldblk r0 rfl), trivial⟩ ?_)
  refine A.cons (A.q (some 17) (.tuple #[(.agg #[(i_ (((mget kv ci).getD cl0).hi)), (i_ (((mget kv ci).getD cl0).hp)), (b_ (((mget kv ci).getD cl0).hl)), (u_ (((mget kv ci).getD cl0).ra)), (u_ (((mget kv ci).getD cl0).rb)), (u_ (((mget kv ci).getD cl0).rc)), (u_ (((mget kv ci).getD cl0).la)), (u_ (((mget kv ci).getD cl0).lb)), (u_ (((mget kv ci).getD cl0).lc)), (u_ (((mget kv ci).getD cl0).ua)), (u_ (((mget kv ci).getD cl0).ub)), (u_ (((mget kv ci).getD cl0).uc)), (i_ (((mget kv ci).getD cl0).hk)), (i_ (((mget kv ci).getD cl0).hq))]), (b_ ((mget kv ci).isSome))]) (by kernel_rfl) (qt_lookupOk (kt := 3) (et := 30) (enck := (fun k : Int => i_ k)) (encv := (fun y : Cl => (.agg (encCl y).toArray))) (b := mb) (kv := kv) (k := ci) (d0 := cl0) (fun ww ss => old_item ss r1) rfl rfl rfl (by kernel_rfl) keyOk_I (by kernel_rfl) rfl) ?_)
  refine A.goA1 [.p, .p, .p, .al, .st 1, .p] [0, 1, 4, 5, 9, 6, 7] (fun b2 => [(0, (p_ bt)), (1, (i_ ci)), (4, (p_ b1)), (5, (i_ 0)), (9, (b_ false)), (6, (p_ b2)), (7, (b_ ((mget kv ci).isSome)))]) (fun b2 => [blk b1 [(i_ 0), (i_ 0), (b_ false), (u_ 0), (u_ 0), (u_ 0), (u_ 0), (u_ 0), (u_ 0), (u_ 0), (u_ 0), (u_ 0), (i_ 0), (i_ 0)] 30, blk b2 [(i_ (((mget kv ci).getD cl0).hi)), (i_ (((mget kv ci).getD cl0).hp)), (b_ (((mget kv ci).getD cl0).hl)), (u_ (((mget kv ci).getD cl0).ra)), (u_ (((mget kv ci).getD cl0).rb)), (u_ (((mget kv ci).getD cl0).rc)), (u_ (((mget kv ci).getD cl0).la)), (u_ (((mget kv ci).getD cl0).lb)), (u_ (((mget kv ci).getD cl0).lc)), (u_ (((mget kv ci).getD cl0).ua)), (u_ (((mget kv ci).getD cl0).ub)), (u_ (((mget kv ci).getD cl0).uc)), (i_ (((mget kv ci).getD cl0).hk)), (i_ (((mget kv ci).getD cl0).hq))] 30]) (fun b2 => [b2]) (fun _ => T0) (fun _ => by kernel_rfl) (fun b2 => trivial) ?_
  intro b2
  refine A.tn ?_
  refine A.seq ?_
  refine A.seq ?_
  refine A.region (A.goA [.p, .p] [(0, (p_ bt)), (1, (i_ ci)), (4, (p_ b1)), (5, (i_ 0)), (9, (b_ false)), (6, (p_ b2)), (7, (b_ ((mget kv ci).isSome))), (21, (b_ (!((mget kv ci).isSome))))] [] T0 (by kernel_rfl) trivial ?_)
  refine A.tn ?_
  refine A.cond (E := !((mget kv ci).isSome)) rfl (fun e1 => ?_) (fun e1 => ?_)
  · skip
    have p1 := e1; try simp only [decide_eq_true_eq, decide_eq_false_iff_not, beq_iff_eq, beq_eq_false_iff_ne, bne_iff_ne, bne_eq_false_iff_eq, ne_eq, Bool.and_eq_true, Bool.or_eq_true, Bool.or_eq_false_iff, Bool.not_eq_true', Bool.not_eq_false', Int.not_lt, Int.not_le, gt_iff_lt, ge_iff_le, Classical.not_not] at p1
    refine A.seq ?_
    refine A.region (A.goAS [.p, .st 0, .p] [(0, (p_ bt)), (1, (i_ ci)), (4, (p_ b1)), (5, (i_ 6)), (9, (b_ false)), (6, (p_ b2)), (7, (b_ ((mget kv ci).isSome))), (21, (b_ (!((mget kv ci).isSome))))] [blk b1 [(i_ 0), (i_ 0), (b_ false), (u_ 0), (u_ 0), (u_ 0), (u_ 0), (u_ 0), (u_ 0), (u_ 0), (u_ 0), (u_ 0), (i_ 0), (i_ 0)] 30, blk b2 [(i_ (((mget kv ci).getD cl0).hi)), (i_ (((mget kv ci).getD cl0).hp)), (b_ (((mget kv ci).getD cl0).hl)), (u_ (((mget kv ci).getD cl0).ra)), (u_ (((mget kv ci).getD cl0).rb)), (u_ (((mget kv ci).getD cl0).rc)), (u_ (((mget kv ci).getD cl0).la)), (u_ (((mget kv ci).getD cl0).lb)), (u_ (((mget kv ci).getD cl0).lc)), (u_ (((mget kv ci).getD cl0).ua)), (u_ (((mget kv ci).getD cl0).ub)), (u_ (((mget kv ci).getD cl0).uc)), (i_ (((mget kv ci).getD cl0).hk)), (i_ (((mget kv ci).getD cl0).hq))] 30] [b1] T0 (by kernel_rfl) trivial ?_)
    refine A.tn ?_
    refine A.ret ?_
    refine A.tr ?_
    refine A.postQ [(.agg #[(i_ 0), (i_ 0), (b_ false), (u_ 0), (u_ 0), (u_ 0), (u_ 0), (u_ 0), (u_ 0), (u_ 0), (u_ 0), (u_ 0), (i_ 0), (i_ 0)]), (i_ 6)] (fun aa ww rr ss => ⟨rv_cellN (vs := [(i_ 0), (i_ 0), (b_ false), (u_ 0), (u_ 0), (u_ 0), (u_ 0), (u_ 0), (u_ 0), (u_ 0), (u_ 0), (u_ 0), (i_ 0), (i_ 0)]) rr ss rfl (by kernel_rfl) (reads_blk (i := 0) rfl rfl), rv_tmp rr rfl, trivial⟩) ?_
    show ((.tuple #[(.agg #[(i_ 0), (i_ 0), (b_ false), (u_ 0), (u_ 0), (u_ 0), (u_ 0), (u_ 0), (u_ 0), (u_ 0), (u_ 0), (u_ 0), (i_ 0), (i_ 0)]), (i_ 6)]) : Value) = (.tuple #[(.agg #[(i_ ((gcl kv ci).hi)), (i_ ((gcl kv ci).hp)), (b_ ((gcl kv ci).hl)), (u_ ((gcl kv ci).ra)), (u_ ((gcl kv ci).rb)), (u_ ((gcl kv ci).rc)), (u_ ((gcl kv ci).la)), (u_ ((gcl kv ci).lb)), (u_ ((gcl kv ci).lc)), (u_ ((gcl kv ci).ua)), (u_ ((gcl kv ci).ub)), (u_ ((gcl kv ci).uc)), (i_ ((gcl kv ci).hk)), (i_ ((gcl kv ci).hq))]), (i_ (gce kv ci))])
    (first | rfl | (have hn_ : mget kv ci = none := by simp_all); simp [gcl, gce, hn_, cl0]; done | (simp_all [gcl, gce]; done))
  · skip
    have p1 := e1; try simp only [decide_eq_true_eq, decide_eq_false_iff_not, beq_iff_eq, beq_eq_false_iff_ne, bne_iff_ne, bne_eq_false_iff_eq, ne_eq, Bool.and_eq_true, Bool.or_eq_true, Bool.or_eq_false_iff, Bool.not_eq_true', Bool.not_eq_false', Int.not_lt, Int.not_le, gt_iff_lt, ge_iff_le, Classical.not_not] at p1
    refine A.skip ?_
    refine A.tn ?_
    refine A.seq ?_
    refine A.region (A.goAS [.ld 1, .st 0, .p] [(0, (p_ bt)), (1, (i_ ci)), (4, (p_ b1)), (5, (i_ 0)), (9, (b_ false)), (6, (p_ b2)), (7, (b_ ((mget kv ci).isSome))), (21, (b_ (!((mget kv ci).isSome))))] [blk b1 [(i_ (((mget kv ci).getD cl0).hi)), (i_ (((mget kv ci).getD cl0).hp)), (b_ (((mget kv ci).getD cl0).hl)), (u_ (((mget kv ci).getD cl0).ra)), (u_ (((mget kv ci).getD cl0).rb)), (u_ (((mget kv ci).getD cl0).rc)), (u_ (((mget kv ci).getD cl0).la)), (u_ (((mget kv ci).getD cl0).lb)), (u_ (((mget kv ci).getD cl0).lc)), (u_ (((mget kv ci).getD cl0).ua)), (u_ (((mget kv ci).getD cl0).ub)), (u_ (((mget kv ci).getD cl0).uc)), (i_ (((mget kv ci).getD cl0).hk)), (i_ (((mget kv ci).getD cl0).hq))] 30, blk b2 [(i_ (((mget kv ci).getD cl0).hi)), (i_ (((mget kv ci).getD cl0).hp)), (b_ (((mget kv ci).getD cl0).hl)), (u_ (((mget kv ci).getD cl0).ra)), (u_ (((mget kv ci).getD cl0).rb)), (u_ (((mget kv ci).getD cl0).rc)), (u_ (((mget kv ci).getD cl0).la)), (u_ (((mget kv ci).getD cl0).lb)), (u_ (((mget kv ci).getD cl0).lc)), (u_ (((mget kv ci).getD cl0).ua)), (u_ (((mget kv ci).getD cl0).ub)), (u_ (((mget kv ci).getD cl0).uc)), (i_ (((mget kv ci).getD cl0).hk)), (i_ (((mget kv ci).getD cl0).hq))] 30] [b2, b1] T0 (by kernel_rfl) trivial ?_)
    refine A.tn ?_
    refine A.ret ?_
    refine A.postQ [(.agg #[(i_ (((mget kv ci).getD cl0).hi)), (i_ (((mget kv ci).getD cl0).hp)), (b_ (((mget kv ci).getD cl0).hl)), (u_ (((mget kv ci).getD cl0).ra)), (u_ (((mget kv ci).getD cl0).rb)), (u_ (((mget kv ci).getD cl0).rc)), (u_ (((mget kv ci).getD cl0).la)), (u_ (((mget kv ci).getD cl0).lb)), (u_ (((mget kv ci).getD cl0).lc)), (u_ (((mget kv ci).getD cl0).ua)), (u_ (((mget kv ci).getD cl0).ub)), (u_ (((mget kv ci).getD cl0).uc)), (i_ (((mget kv ci).getD cl0).hk)), (i_ (((mget kv ci).getD cl0).hq))]), (i_ 0)] (fun aa ww rr ss => ⟨rv_cellN (vs := [(i_ (((mget kv ci).getD cl0).hi)), (i_ (((mget kv ci).getD cl0).hp)), (b_ (((mget kv ci).getD cl0).hl)), (u_ (((mget kv ci).getD cl0).ra)), (u_ (((mget kv ci).getD cl0).rb)), (u_ (((mget kv ci).getD cl0).rc)), (u_ (((mget kv ci).getD cl0).la)), (u_ (((mget kv ci).getD cl0).lb)), (u_ (((mget kv ci).getD cl0).lc)), (u_ (((mget kv ci).getD cl0).ua)), (u_ (((mget kv ci).getD cl0).ub)), (u_ (((mget kv ci).getD cl0).uc)), (i_ (((mget kv ci).getD cl0).hk)), (i_ (((mget kv ci).getD cl0).hq))]) rr ss rfl (by kernel_rfl) (reads_blk (i := 0) rfl rfl), rv_tmp rr rfl, trivial⟩) ?_
    show ((.tuple #[(.agg #[(i_ (((mget kv ci).getD cl0).hi)), (i_ (((mget kv ci).getD cl0).hp)), (b_ (((mget kv ci).getD cl0).hl)), (u_ (((mget kv ci).getD cl0).ra)), (u_ (((mget kv ci).getD cl0).rb)), (u_ (((mget kv ci).getD cl0).rc)), (u_ (((mget kv ci).getD cl0).la)), (u_ (((mget kv ci).getD cl0).lb)), (u_ (((mget kv ci).getD cl0).lc)), (u_ (((mget kv ci).getD cl0).ua)), (u_ (((mget kv ci).getD cl0).ub)), (u_ (((mget kv ci).getD cl0).uc)), (i_ (((mget kv ci).getD cl0).hk)), (i_ (((mget kv ci).getD cl0).hq))]), (i_ 0)]) : Value) = (.tuple #[(.agg #[(i_ ((gcl kv ci).hi)), (i_ ((gcl kv ci).hp)), (b_ ((gcl kv ci).hl)), (u_ ((gcl kv ci).ra)), (u_ ((gcl kv ci).rb)), (u_ ((gcl kv ci).rc)), (u_ ((gcl kv ci).la)), (u_ ((gcl kv ci).lb)), (u_ ((gcl kv ci).lc)), (u_ ((gcl kv ci).ua)), (u_ ((gcl kv ci).ub)), (u_ ((gcl kv ci).uc)), (i_ ((gcl kv ci).hk)), (i_ ((gcl kv ci).hq))]), (i_ (gce kv ci))])
    (first | rfl | (have hn_ : mget kv ci = none := by simp_all); simp [gcl, gce, hn_, cl0]; done | (simp_all [gcl, gce]; done))

set_option maxHeartbeats 4000000 in
set_option maxRecDepth 100000 in
theorem hshares_spec (bt mb : Nat) (kv : List (Int × Cl)) (ci : Int) (w : World) (r0 : (blk bt [(.map (some mb))] 55).holds w) (r1 : (mapI (fun k : Int => i_ k) (fun y : Cl => (.agg (encCl y).toArray)) mb kv).holds w) :
    Calls Try.prog 35 #[(p_ bt), (i_ ci)] w fun e w' => e = .returned (b_ (sharesH kv ci)) ∧ Fr [] w w' := by
  refine calls_of (args := [(p_ bt), (i_ ci)]) (penv [(p_ bt), (i_ ci)]) [] [] Try.func35 rfl rfl (look_penv _) (HS.nil w) ?_
  refine A.norm [(0, (p_ bt)), (1, (i_ ci))] [] (by exact ⟨rfl, rfl, trivial⟩) rfl ?_
  refine A.seq ?_
  refine A.region (A.goA [.p] [(0, (p_ bt)), (1, (i_ ci)), (4, (b_ false))] [] T0 (by kernel_rfl) trivial ?_)
  refine A.tn ?_
  refine A.seq ?_
  refine A.region (A.goP [.p, .p, .p] [(0, (p_ bt)), (1, (i_ ci)), (4, (b_ false)), (7, (b_ (ci == 0)))] [] T0 (by kernel_rfl) trivial ?_)
  refine A.bool (ci == 0) (fun e1 => ?_) (fun e1 => ?_)
  · skip
    refine A.sub [(0, (p_ bt)), (1, (i_ ci)), (4, (b_ false)), (7, (b_ true))] (by exact ⟨rfl, rfl, rfl, (congrArg (fun z => some (Value.bool z)) e1), trivial⟩) ?_
    refine A.goA [.sk, .sk, .sk, .sk, .sk, .sk, .sk, .p, .p] [(0, (p_ bt)), (1, (i_ ci)), (4, (b_ true))] [] T0 (by kernel_rfl) trivial ?_
    refine A.tn ?_
    refine A.ret ?_
    refine A.postQ [(b_ true)] (fun aa ww rr ss => ⟨rv_tmp rr rfl, trivial⟩) ?_
    show ((b_ true) : Value) = (b_ (sharesH kv ci))
    simp_all [sharesH, gcl]
  · skip
    refine A.sub [(0, (p_ bt)), (1, (i_ ci)), (4, (b_ false)), (7, (b_ false))] (by exact ⟨rfl, rfl, rfl, (congrArg (fun z => some (Value.bool z)) e1), trivial⟩) ?_
    refine A.goP [.p, .p, .p, .rd [(.map (some mb))], .p] [(0, (p_ bt)), (1, (i_ ci)), (4, (b_ false)), (7, (b_ false)), (11, (.map (some mb))), (12, (i_ ci))] [] (fun κ => κ.rd ⟨bt, 0, none⟩ [(.map (some mb))] ∧ True) (by kernel_rfl) ⟨(reads_oldblk r0 rfl), trivial⟩ ?_
    refine A.cons (A.q (some 13) (.agg #[(i_ (((mget kv ci).getD cl0).hi)), (i_ (((mget kv ci).getD cl0).hp)), (b_ (((mget kv ci).getD cl0).hl)), (u_ (((mget kv ci).getD cl0).ra)), (u_ (((mget kv ci).getD cl0).rb)), (u_ (((mget kv ci).getD cl0).rc)), (u_ (((mget kv ci).getD cl0).la)), (u_ (((mget kv ci).getD cl0).lb)), (u_ (((mget kv ci).getD cl0).lc)), (u_ (((mget kv ci).getD cl0).ua)), (u_ (((mget kv ci).getD cl0).ub)), (u_ (((mget kv ci).getD cl0).uc)), (i_ (((mget kv ci).getD cl0).hk)), (i_ (((mget kv ci).getD cl0).hq))]) (by kernel_rfl) (qt_lookup (kt := 3) (et := 30) (enck := (fun k : Int => i_ k)) (encv := (fun y : Cl => (.agg (encCl y).toArray))) (b := mb) (kv := kv) (k := ci) (d0 := cl0) (fun ww ss => old_item ss r1) rfl rfl rfl (by kernel_rfl) keyOk_I (by kernel_rfl) rfl) ?_)
    refine A.goA [.cq (b_ (decide ((ofC ((mget kv ci).getD cl0).la ((mget kv ci).getD cl0).lb ((mget kv ci).getD cl0).lc) > 1))), .p, .p] [(0, (p_ bt)), (1, (i_ ci)), (4, (b_ (decide ((ofC ((mget kv ci).getD cl0).la ((mget kv ci).getD cl0).lb ((mget kv ci).getD cl0).lc) > 1))))] [] (fun κ => κ.call 34 [(.agg #[(i_ (((mget kv ci).getD cl0).hi)), (i_ (((mget kv ci).getD cl0).hp)), (b_ (((mget kv ci).getD cl0).hl)), (u_ (((mget kv ci).getD cl0).ra)), (u_ (((mget kv ci).getD cl0).rb)), (u_ (((mget kv ci).getD cl0).rc)), (u_ (((mget kv ci).getD cl0).la)), (u_ (((mget kv ci).getD cl0).lb)), (u_ (((mget kv ci).getD cl0).lc)), (u_ (((mget kv ci).getD cl0).ua)), (u_ (((mget kv ci).getD cl0).ub)), (u_ (((mget kv ci).getD cl0).uc)), (i_ (((mget kv ci).getD cl0).hk)), (i_ (((mget kv ci).getD cl0).hq))])] (b_ (decide ((ofC ((mget kv ci).getD cl0).la ((mget kv ci).getD cl0).lb ((mget kv ci).getD cl0).lc) > 1))) ∧ True) (by kernel_rfl) ⟨(fun ww ss => shares_spec ((mget kv ci).getD cl0) ww), trivial⟩ ?_
    refine A.tn ?_
    refine A.ret ?_
    refine A.postQ [(b_ (decide ((ofC ((mget kv ci).getD cl0).la ((mget kv ci).getD cl0).lb ((mget kv ci).getD cl0).lc) > 1)))] (fun aa ww rr ss => ⟨rv_tmp rr rfl, trivial⟩) ?_
    show ((b_ (decide ((ofC ((mget kv ci).getD cl0).la ((mget kv ci).getD cl0).lb ((mget kv ci).getD cl0).lc) > 1))) : Value) = (b_ (sharesH kv ci))
    simp_all [sharesH, gcl]

set_option maxHeartbeats 4000000 in
set_option maxRecDepth 100000 in
theorem up_nil (ci : Int) (w : World) :
    Calls Try.prog 11 #[n_, (i_ ci)] w fun e w' => e = .returned e_ ∧ Fr [] w w' := by
  refine calls_of (args := [n_, (i_ ci)]) (penv [n_, (i_ ci)]) [] [] Try.func11 rfl rfl (look_penv _) (HS.nil w) ?_
  refine A.norm [(0, n_), (1, (i_ ci))] [] (by exact ⟨rfl, rfl, trivial⟩) rfl ?_
  refine A.seq ?_
  refine A.region (A.goA [.p] [(0, n_), (1, (i_ ci)), (4, e_)] [] T0 (by kernel_rfl) trivial ?_)
  refine A.tn ?_
  refine A.seq ?_
  refine A.region (A.goA [.p] [(0, n_), (1, (i_ ci)), (4, e_), (5, e_)] [] T0 (by kernel_rfl) trivial ?_)
  refine A.tn ?_
  refine A.block ?_
  refine A.unroll 400 ?_
  refine A.turnk (m := 399) ?_
  refine A.block ?_
  refine A.seq ?_
  refine A.region (A.goA1 [.p, .p, .cq (.tuple #[(.agg #[(i_ 0), (i_ 0), (b_ false), (u_ 0), (u_ 0), (u_ 0), (u_ 0), (u_ 0), (u_ 0), (u_ 0), (u_ 0), (u_ 0), (i_ 0), (i_ 0)]), (i_ 7)]), .p, .p, .p, .al, .st 0, .p] [0, 1, 4, 5, 6, 7] (fun b1 => [(0, n_), (1, (i_ ci)), (4, e_), (5, e_), (6, (p_ b1)), (7, (i_ 7))]) (fun b1 => [blk b1 [(i_ 0), (i_ 0), (b_ false), (u_ 0), (u_ 0), (u_ 0), (u_ 0), (u_ 0), (u_ 0), (u_ 0), (u_ 0), (u_ 0), (i_ 0), (i_ 0)] 30]) (fun b1 => [b1]) (fun _ => (fun κ => κ.call 10 [n_, (i_ ci)] (.tuple #[(.agg #[(i_ 0), (i_ 0), (b_ false), (u_ 0), (u_ 0), (u_ 0), (u_ 0), (u_ 0), (u_ 0), (u_ 0), (u_ 0), (u_ 0), (i_ 0), (i_ 0)]), (i_ 7)]) ∧ True)) (fun _ => by kernel_rfl) (fun b1 => ⟨(fun ww ss => get_nil ci ww), trivial⟩) ?_)
  intro b1
  refine A.tn ?_
  refine A.seq ?_
  refine A.seq ?_
  refine A.region (A.goA [.p, .p] [(0, n_), (1, (i_ ci)), (4, e_), (5, e_), (6, (p_ b1)), (7, (i_ 7)), (15, (b_ true))] [] T0 (by kernel_rfl) trivial ?_)
  refine A.tn ?_
  refine A.cond_t rfl ?_
  refine A.seq ?_
  refine A.region (A.goA [.p, .p] [(0, n_), (1, (i_ ci)), (4, e_), (5, e_), (6, (p_ b1)), (7, (i_ 7)), (15, (b_ true))] [] T0 (by kernel_rfl) trivial ?_)
  refine A.tn ?_
  refine A.ret ?_
  refine A.tr ?_
  refine A.br ?_
  refine A.tr ?_
  refine A.br ?_
  refine A.postQ [e_] (fun aa ww rr ss => ⟨rv_tmp rr rfl, trivial⟩) ?_
  rfl

set_option maxHeartbeats 4000000 in
set_option maxRecDepth 100000 in
theorem up_ok (bt mb : Nat) (kv : List (Int × Cl)) (ci : Int) (d : Nat) (hd : ∀ j, j < d → mget kv (upA kv ci j) ≠ none) (he : mget kv (upA kv ci d) = none) (hd7 : d ≤ 1000) (w : World) (r0 : (blk bt [(.map (some mb))] 55).holds w) (r1 : (mapI (fun k : Int => i_ k) (fun y : Cl => (.agg (encCl y).toArray)) mb kv).holds w) (hs : HS w (feet []) [] w) :
    Calls Try.prog 11 #[(p_ bt), (i_ ci)] w fun e w' => ∃ zz, e = .returned ((fun (zz : (Option Addr) × Nat) => match zz with | (al', cl') => (.slice al' ((upL kv ci d).length) cl')) zz) ∧ (fun (zz : (Option Addr) × Nat) => match zz with | (al', cl') => True) zz ∧ Turn [] ((fun (zz : (Option Addr) × Nat) => match zz with | (al', cl') => [sl al' ((upL kv ci d).length) cl' 3 1 (V.flat encI (upL kv ci d))]) zz) w w' := by
  refine calls_of (args := [(p_ bt), (i_ ci)]) (penv [(p_ bt), (i_ ci)]) (feet []) [] Try.func11 rfl rfl (look_penv _) hs ?_
  refine A.norm [(0, (p_ bt)), (1, (i_ ci))] [] (by exact ⟨rfl, rfl, trivial⟩) rfl ?_
  refine A.seq ?_
  refine A.region (A.goA [.p] [(0, (p_ bt)), (1, (i_ ci)), (4, e_)] [] T0 (by kernel_rfl) trivial ?_)
  refine A.tn ?_
  refine A.seq ?_
  refine A.region (A.goA [.p] [(0, (p_ bt)), (1, (i_ ci)), (4, e_), (5, e_)] [] T0 (by kernel_rfl) trivial ?_)
  refine A.tn ?_
  refine A.block ?_
  refine A.ownNil 3 1 [sl none (([] : List Int).length) 0 3 1 (V.flat encI ([] : List Int))] rfl ?_
  refine A.sub [(0, (p_ bt)), (1, (i_ (upA kv ci 0))), (4, e_), (5, (.slice none (([] : List Int).length) 0))] (by exact ⟨rfl, (congrArg (fun z_ => some (i_ z_)) (by first | rfl | exact upL_snoc _ _ _ | rw [up_end hd hk (by assumption)] : ci = (upA kv ci 0))), rfl, rfl, trivial⟩) ?_
  refine A.setH [sl none ((upL kv ci 0).length) 0 3 1 (V.flat encI (upL kv ci 0))] (cc (slC (by first | rfl | exact upL_snoc _ _ _ | rw [up_end hd hk (by assumption)] : ([] : List Int) = (upL kv ci 0))) rfl) ?_
  refine A.sub [(0, (p_ bt)), (1, (i_ (upA kv ci 0))), (4, e_), (5, (.slice none ((upL kv ci 0).length) 0))] (by exact ⟨rfl, rfl, rfl, (congrArg (fun z_ : List Int => some (Value.slice none z_.length 0)) (by first | rfl | exact upL_snoc _ _ _ | rw [up_end hd hk (by assumption)] : ([] : List Int) = (upL kv ci 0))), trivial⟩) ?_
  refine A.loop (fun (zz : Nat × (Option Addr) × Nat) => match zz with | (k, ao, co) => [(0, (p_ bt)), (5, (.slice ao ((upL kv ci k).length) co)), (1, (i_ (upA kv ci k)))]) (fun (zz : Nat × (Option Addr) × Nat) => match zz with | (k, ao, co) => [sl ao ((upL kv ci k).length) co 3 1 (V.flat encI (upL kv ci k))]) (fun (zz : Nat × (Option Addr) × Nat) => match zz with | (k, ao, co) => (k ≤ d)) (fun (zz : Nat × (Option Addr) × Nat) => match zz with | (k, ao, co) => d + 1 - k) (0, none, 0) (by first | assumption | omega | (simp_all; done) | (simp_all; omega) | grind) ?_ ?_
  · exact A.hereK [0] (by exact ⟨rfl, rfl, rfl, trivial⟩) (by kernel_rfl)
  · rintro ⟨k, ao, co⟩ hk
    have hk : k ≤ d := hk
    refine A.norm [(0, (p_ bt)), (5, (.slice ao ((upL kv ci k).length) co)), (1, (i_ (upA kv ci k)))] [sl ao ((upL kv ci k).length) co 3 1 (V.flat encI (upL kv ci k))] (by exact ⟨rfl, rfl, rfl, trivial⟩) rfl ?_
    refine A.block ?_
    refine A.seq ?_
    refine A.region (A.goA1 [.p, .p, .cq (.tuple #[(.agg #[(i_ ((gcl kv (upA kv ci k)).hi)), (i_ ((gcl kv (upA kv ci k)).hp)), (b_ ((gcl kv (upA kv ci k)).hl)), (u_ ((gcl kv (upA kv ci k)).ra)), (u_ ((gcl kv (upA kv ci k)).rb)), (u_ ((gcl kv (upA kv ci k)).rc)), (u_ ((gcl kv (upA kv ci k)).la)), (u_ ((gcl kv (upA kv ci k)).lb)), (u_ ((gcl kv (upA kv ci k)).lc)), (u_ ((gcl kv (upA kv ci k)).ua)), (u_ ((gcl kv (upA kv ci k)).ub)), (u_ ((gcl kv (upA kv ci k)).uc)), (i_ ((gcl kv (upA kv ci k)).hk)), (i_ ((gcl kv (upA kv ci k)).hq))]), (i_ (gce kv (upA kv ci k)))]), .p, .p, .p, .al, .st 1, .p] [0, 5, 1, 6, 7] (fun b2 => [(0, (p_ bt)), (5, (.slice ao ((upL kv ci k).length) co)), (1, (i_ (upA kv ci k))), (6, (p_ b2)), (7, (i_ (gce kv (upA kv ci k))))]) (fun b2 => [sl ao ((upL kv ci k).length) co 3 1 (V.flat encI (upL kv ci k)), blk b2 [(i_ ((gcl kv (upA kv ci k)).hi)), (i_ ((gcl kv (upA kv ci k)).hp)), (b_ ((gcl kv (upA kv ci k)).hl)), (u_ ((gcl kv (upA kv ci k)).ra)), (u_ ((gcl kv (upA kv ci k)).rb)), (u_ ((gcl kv (upA kv ci k)).rc)), (u_ ((gcl kv (upA kv ci k)).la)), (u_ ((gcl kv (upA kv ci k)).lb)), (u_ ((gcl kv (upA kv ci k)).lc)), (u_ ((gcl kv (upA kv ci k)).ua)), (u_ ((gcl kv (upA kv ci k)).ub)), (u_ ((gcl kv (upA kv ci k)).uc)), (i_ ((gcl kv (upA kv ci k)).hk)), (i_ ((gcl kv (upA kv ci k)).hq))] 30]) (fun b2 => [b2]) (fun _ => (fun κ => κ.call 10 [(p_ bt), (i_ (upA kv ci k))] (.tuple #[(.agg #[(i_ ((gcl kv (upA kv ci k)).hi)), (i_ ((gcl kv (upA kv ci k)).hp)), (b_ ((gcl kv (upA kv ci k)).hl)), (u_ ((gcl kv (upA kv ci k)).ra)), (u_ ((gcl kv (upA kv ci k)).rb)), (u_ ((gcl kv (upA kv ci k)).rc)), (u_ ((gcl kv (upA kv ci k)).la)), (u_ ((gcl kv (upA kv ci k)).lb)), (u_ ((gcl kv (upA kv ci k)).lc)), (u_ ((gcl kv (upA kv ci k)).ua)), (u_ ((gcl kv (upA kv ci k)).ub)), (u_ ((gcl kv (upA kv ci k)).uc)), (i_ ((gcl kv (upA kv ci k)).hk)), (i_ ((gcl kv (upA kv ci k)).hq))]), (i_ (gce kv (upA kv ci k)))]) ∧ True)) (fun _ => by kernel_rfl) (fun b2 => ⟨(fun ww ss => get_ok bt mb kv (upA kv ci k) ww (old_item ss r0) (old_item ss r1)), trivial⟩) ?_)
    intro b2
    refine A.tn ?_
    refine A.seq ?_
    refine A.seq ?_
    refine A.region (A.goA [.p, .p] [(0, (p_ bt)), (5, (.slice ao ((upL kv ci k).length) co)), (1, (i_ (upA kv ci k))), (6, (p_ b2)), (7, (i_ (gce kv (upA kv ci k)))), (15, (b_ ((gce kv (upA kv ci k)) != 0)))] [] T0 (by kernel_rfl) trivial ?_)
    refine A.tn ?_
    refine A.cond (E := (gce kv (upA kv ci k)) != 0) rfl (fun e1 => ?_) (fun e1 => ?_)
    · skip
      have p1 := e1; try simp only [decide_eq_true_eq, decide_eq_false_iff_not, beq_iff_eq, beq_eq_false_iff_ne, bne_iff_ne, bne_eq_false_iff_eq, ne_eq, Bool.and_eq_true, Bool.or_eq_true, Bool.or_eq_false_iff, Bool.not_eq_true', Bool.not_eq_false', Int.not_lt, Int.not_le, gt_iff_lt, ge_iff_le, Classical.not_not] at p1
      refine A.seq ?_
      refine A.region (A.goA [.p, .p] [(0, (p_ bt)), (5, (.slice ao ((upL kv ci k).length) co)), (1, (i_ (upA kv ci k))), (6, (p_ b2)), (7, (i_ (gce kv (upA kv ci k)))), (15, (b_ ((gce kv (upA kv ci k)) != 0))), (4, (.slice ao ((upL kv ci k).length) co))] [] T0 (by kernel_rfl) trivial ?_)
      refine A.tn ?_
      refine A.ret ?_
      refine A.tr ?_
      refine A.br ?_
      refine A.tr ?_
      refine A.br ?_
      refine A.setH [sl ao ((upL kv ci d).length) co 3 1 (V.flat encI (upL kv ci d)), blk b2 [(i_ ((gcl kv (upA kv ci k)).hi)), (i_ ((gcl kv (upA kv ci k)).hp)), (b_ ((gcl kv (upA kv ci k)).hl)), (u_ ((gcl kv (upA kv ci k)).ra)), (u_ ((gcl kv (upA kv ci k)).rb)), (u_ ((gcl kv (upA kv ci k)).rc)), (u_ ((gcl kv (upA kv ci k)).la)), (u_ ((gcl kv (upA kv ci k)).lb)), (u_ ((gcl kv (upA kv ci k)).lc)), (u_ ((gcl kv (upA kv ci k)).ua)), (u_ ((gcl kv (upA kv ci k)).ub)), (u_ ((gcl kv (upA kv ci k)).uc)), (i_ ((gcl kv (upA kv ci k)).hk)), (i_ ((gcl kv (upA kv ci k)).hq))] 30] (cc (slC (by first | rfl | exact upL_snoc _ _ _ | rw [up_end hd hk (by assumption)] : (upL kv ci k) = (upL kv ci d))) rfl) ?_
      refine A.postK [0] [(.slice ao ((upL kv ci k).length) co)] (fun aa ww rr ss => ⟨rv_tmp rr rfl, trivial⟩) (ao, co) ?_ ?_ (by kernel_rfl)
      · show ((.slice ao ((upL kv ci k).length) co) : Value) = (.slice ao ((upL kv ci d).length) co)
        rw [up_end hd hk (by assumption)]
      · trivial
    · skip
      have p1 := e1; try simp only [decide_eq_true_eq, decide_eq_false_iff_not, beq_iff_eq, beq_eq_false_iff_ne, bne_iff_ne, bne_eq_false_iff_eq, ne_eq, Bool.and_eq_true, Bool.or_eq_true, Bool.or_eq_false_iff, Bool.not_eq_true', Bool.not_eq_false', Int.not_lt, Int.not_le, gt_iff_lt, ge_iff_le, Classical.not_not] at p1
      refine A.skip ?_
      refine A.tn ?_
      refine A.seq ?_
      refine A.region (A.goP [.p, .p] [(0, (p_ bt)), (5, (.slice ao ((upL kv ci k).length) co)), (1, (i_ (upA kv ci k))), (6, (p_ b2)), (7, (i_ (gce kv (upA kv ci k)))), (15, (b_ ((gce kv (upA kv ci k)) != 0))), (17, (.slice ao ((upL kv ci k).length) co)), (18, (i_ (upA kv ci k)))] [] T0 (by kernel_rfl) trivial ?_)
      refine A.cons (A.buildSlice 19 (e := 3) [(i_ (upA kv ci k))] (by kernel_rfl) rfl (fun _ => by kernel_rfl) (fun b3 => [sl ao ((upL kv ci k).length) co 3 1 (V.flat encI (upL kv ci k)), blk b2 [(i_ ((gcl kv (upA kv ci k)).hi)), (i_ ((gcl kv (upA kv ci k)).hp)), (b_ ((gcl kv (upA kv ci k)).hl)), (u_ ((gcl kv (upA kv ci k)).ra)), (u_ ((gcl kv (upA kv ci k)).rb)), (u_ ((gcl kv (upA kv ci k)).rc)), (u_ ((gcl kv (upA kv ci k)).la)), (u_ ((gcl kv (upA kv ci k)).lb)), (u_ ((gcl kv (upA kv ci k)).lc)), (u_ ((gcl kv (upA kv ci k)).ua)), (u_ ((gcl kv (upA kv ci k)).ub)), (u_ ((gcl kv (upA kv ci k)).uc)), (i_ ((gcl kv (upA kv ci k)).hk)), (i_ ((gcl kv (upA kv ci k)).hq))] 30, blk b3 [(i_ (upA kv ci k))] 3]) (fun _ => rfl) ?_)
      intro b3
      refine A.cons (A.appendC (enc := encI) (xs := (upL kv ci k)) ([(upA kv ci k)]) 0 20 (e := 3) (z := (i_ 0)) (sz := 1) (by_ := 8) (by kernel_rfl) rfl rfl rfl (by kernel_rfl) (by kernel_rfl) (by rfl) (by decide) encI_len encI_one rfl (rd_blk (i := 2) rfl) (by simp [upL_len]; omega) (fun A4 c4 => [sl A4 (((upL kv ci k) ++ ([(upA kv ci k)])).length) c4 3 1 (V.flat encI ((upL kv ci k) ++ ([(upA kv ci k)]))), blk b2 [(i_ ((gcl kv (upA kv ci k)).hi)), (i_ ((gcl kv (upA kv ci k)).hp)), (b_ ((gcl kv (upA kv ci k)).hl)), (u_ ((gcl kv (upA kv ci k)).ra)), (u_ ((gcl kv (upA kv ci k)).rb)), (u_ ((gcl kv (upA kv ci k)).rc)), (u_ ((gcl kv (upA kv ci k)).la)), (u_ ((gcl kv (upA kv ci k)).lb)), (u_ ((gcl kv (upA kv ci k)).lc)), (u_ ((gcl kv (upA kv ci k)).ua)), (u_ ((gcl kv (upA kv ci k)).ub)), (u_ ((gcl kv (upA kv ci k)).uc)), (i_ ((gcl kv (upA kv ci k)).hk)), (i_ ((gcl kv (upA kv ci k)).hq))] 30, blk b3 [(i_ (upA kv ci k))] 3]) (fun _ _ => rfl) ?_)
      intro A4 c4
      refine A.goA [.p] [(0, (p_ bt)), (5, (.slice A4 (((upL kv ci k) ++ ([(upA kv ci k)])).length) c4)), (1, (i_ (upA kv ci k))), (6, (p_ b2)), (7, (i_ (gce kv (upA kv ci k)))), (15, (b_ ((gce kv (upA kv ci k)) != 0)))] [] T0 (by kernel_rfl) trivial ?_
      refine A.tn ?_
      refine A.region (A.goA [.p, .ld 1, .p] [(0, (p_ bt)), (5, (.slice A4 (((upL kv ci k) ++ ([(upA kv ci k)])).length) c4)), (1, (i_ ((gcl kv (upA kv ci k)).hp))), (6, (p_ b2)), (7, (i_ (gce kv (upA kv ci k)))), (15, (b_ ((gce kv (upA kv ci k)) != 0)))] [b2] T0 (by kernel_rfl) trivial ?_)
      refine A.bn ?_
      refine A.tn ?_
      refine A.sub [(0, (p_ bt)), (5, (.slice A4 (((upL kv ci k) ++ ([(upA kv ci k)])).length) c4)), (1, (i_ (upA kv ci (k + 1)))), (6, (p_ b2)), (7, (i_ (gce kv (upA kv ci k)))), (15, (b_ ((gce kv (upA kv ci k)) != 0)))] (by exact ⟨rfl, rfl, (congrArg (fun z_ => some (i_ z_)) (by first | rfl | exact upL_snoc _ _ _ | rw [up_end hd hk (by assumption)] : (gcl kv (upA kv ci k)).hp = (upA kv ci (k + 1)))), rfl, rfl, rfl, trivial⟩) ?_
      refine A.setH [sl A4 ((upL kv ci (k + 1)).length) c4 3 1 (V.flat encI (upL kv ci (k + 1))), blk b2 [(i_ ((gcl kv (upA kv ci k)).hi)), (i_ ((gcl kv (upA kv ci k)).hp)), (b_ ((gcl kv (upA kv ci k)).hl)), (u_ ((gcl kv (upA kv ci k)).ra)), (u_ ((gcl kv (upA kv ci k)).rb)), (u_ ((gcl kv (upA kv ci k)).rc)), (u_ ((gcl kv (upA kv ci k)).la)), (u_ ((gcl kv (upA kv ci k)).lb)), (u_ ((gcl kv (upA kv ci k)).lc)), (u_ ((gcl kv (upA kv ci k)).ua)), (u_ ((gcl kv (upA kv ci k)).ub)), (u_ ((gcl kv (upA kv ci k)).uc)), (i_ ((gcl kv (upA kv ci k)).hk)), (i_ ((gcl kv (upA kv ci k)).hq))] 30, blk b3 [(i_ (upA kv ci k))] 3] (cc (slC (by first | rfl | exact upL_snoc _ _ _ | rw [up_end hd hk (by assumption)] : (upL kv ci k) ++ ([(upA kv ci k)]) = (upL kv ci (k + 1)))) rfl) ?_
      refine A.sub [(0, (p_ bt)), (5, (.slice A4 ((upL kv ci (k + 1)).length) c4)), (1, (i_ (upA kv ci (k + 1)))), (6, (p_ b2)), (7, (i_ (gce kv (upA kv ci k)))), (15, (b_ ((gce kv (upA kv ci k)) != 0)))] (by exact ⟨rfl, (congrArg (fun z_ : List Int => some (Value.slice A4 z_.length c4)) (by first | rfl | exact upL_snoc _ _ _ | rw [up_end hd hk (by assumption)] : (upL kv ci k) ++ ([(upA kv ci k)]) = (upL kv ci (k + 1)))), rfl, rfl, rfl, rfl, trivial⟩) ?_
      refine A.next (k + 1, A4, c4) (by exact up_lt he hk (by assumption)) (by (show d + 1 - (k + 1) < d + 1 - k; omega)) ?_
      exact A.hereK [0] (by exact ⟨rfl, rfl, rfl, trivial⟩) (by kernel_rfl)

set_option maxHeartbeats 4000000 in
set_option maxRecDepth 100000 in
theorem depth_nil (ci : Int) (w : World) :
    Calls Try.prog 20 #[n_, (i_ ci)] w fun e w' => e = .returned (i_ 0) ∧ Fr [] w w' := by
  refine calls_of (args := [n_, (i_ ci)]) (penv [n_, (i_ ci)]) [] [] Try.func20 rfl rfl (look_penv _) (HS.nil w) ?_
  refine A.norm [(0, n_), (1, (i_ ci))] [] (by exact ⟨rfl, rfl, trivial⟩) rfl ?_
  refine A.seq ?_
  refine A.region (A.goA [.p] [(0, n_), (1, (i_ ci)), (4, (i_ 0))] [] T0 (by kernel_rfl) trivial ?_)
  refine A.tn ?_
  refine A.seq ?_
  refine A.region (A.goA [.p, .p, .cq e_, .p, .p] [(0, n_), (1, (i_ ci)), (4, (i_ 0))] [] (fun κ => κ.call 11 [n_, (i_ ci)] e_ ∧ True) (by kernel_rfl) ⟨(fun ww ss => up_nil ci ww), trivial⟩ ?_)
  refine A.tn ?_
  refine A.ret ?_
  refine A.postQ [(i_ 0)] (fun aa ww rr ss => ⟨rv_tmp rr rfl, trivial⟩) ?_
  rfl

set_option maxHeartbeats 4000000 in
set_option maxRecDepth 100000 in
theorem depth_ok (bt mb : Nat) (kv : List (Int × Cl)) (ci : Int) (d : Nat) (hd : ∀ j, j < d → mget kv (upA kv ci j) ≠ none) (he : mget kv (upA kv ci d) = none) (hd7 : d ≤ 1000) (w : World) (r0 : (blk bt [(.map (some mb))] 55).holds w) (r1 : (mapI (fun k : Int => i_ k) (fun y : Cl => (.agg (encCl y).toArray)) mb kv).holds w) :
    Calls Try.prog 20 #[(p_ bt), (i_ ci)] w fun e w' => e = .returned (i_ (d : Int)) ∧ Fr [] w w' := by
  refine calls_of (args := [(p_ bt), (i_ ci)]) (penv [(p_ bt), (i_ ci)]) [] [] Try.func20 rfl rfl (look_penv _) (HS.nil w) ?_
  refine A.norm [(0, (p_ bt)), (1, (i_ ci))] [] (by exact ⟨rfl, rfl, trivial⟩) rfl ?_
  refine A.seq ?_
  refine A.region (A.goA [.p] [(0, (p_ bt)), (1, (i_ ci)), (4, (i_ 0))] [] T0 (by kernel_rfl) trivial ?_)
  refine A.tn ?_
  refine A.seq ?_
  refine A.region (A.goP [.p, .p] [(0, (p_ bt)), (1, (i_ ci)), (4, (i_ 0)), (5, (p_ bt)), (6, (i_ ci))] [] T0 (by kernel_rfl) trivial ?_)
  refine A.cons (A.callT (some 7) [(p_ bt), (i_ ci)] [] ((fun zz => match zz with | (al'1, cl'2) => (.slice al'1 ((upL kv ci d).length) cl'2))) ((fun zz => match zz with | (al'1, cl'2) => True)) ((fun zz => match zz with | (al'1, cl'2) => [sl al'1 ((upL kv ci d).length) cl'2 3 1 (V.flat encI (upL kv ci d))])) (fun zz => match zz with | (al'1, cl'2) => [sl al'1 ((upL kv ci d).length) cl'2 3 1 (V.flat encI (upL kv ci d))]) (by kernel_rfl) rfl rfl (fun ww ss hh => up_ok bt mb kv ci d (by assumption) (by assumption) (by assumption) ww (old_item ss r0) (old_item ss r1) hh) (fun _ => rfl) ?_)
  rintro ⟨al'1, cl'2⟩ -
  refine A.goA [.p, .p] [(0, (p_ bt)), (1, (i_ ci)), (4, (i_ ((upL kv ci d).length : Int)))] [] T0 (by kernel_rfl) trivial ?_
  refine A.tn ?_
  refine A.ret ?_
  refine A.postQ [(i_ ((upL kv ci d).length : Int))] (fun aa ww rr ss => ⟨rv_tmp rr rfl, trivial⟩) ?_
  show ((i_ ((upL kv ci d).length : Int)) : Value) = (i_ (d : Int))
  rw [upL_len]
end Go.Proofs.Ytpodcfadcdnllaa
