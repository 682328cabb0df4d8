/- What the functions of this layer do, proved operation by operation, for all arguments, under the conditions that each theorem states. -/
import Derived.Test.YtbmllohfpgngeaaDoorProg
import Derived.Test.YtbmllohfpgngeaaDoorWide1
namespace Go.Proofs.YtbmllohfpgngeaaDoor
open Go V
set_option linter.unusedVariables false
set_option linter.unusedSimpArgs false
/-- a number's digits of the base 2^32 -/
def dA (v : Int) : Int := v % 4294967296
def dB (v : Int) : Int := v / 4294967296 % 4294967296
def dC (v : Int) : Int := v / 18446744073709551616 % 4294967296
def dD (v : Int) : Int := v / 79228162514264337593543950336
theorem u_tdiv {x b : Int} (h : 0 ≤ x ∧ x < 18446744073709551616) (hb : 0 < b) : IntKind.u64.wrap (x.tdiv b) = x / b := by
  rw [Int.tdiv_eq_ediv_of_nonneg h.1, IntKind.wrap_u64]
  have h1 := Int.ediv_nonneg h.1 (Int.le_of_lt hb)
  have h2 := Int.ediv_le_self b h.1
  omega
theorem u_tmod {x b : Int} (h : 0 ≤ x) : x.tmod b = x % b := Int.tmod_eq_emod_of_nonneg h
theorem dg_rng {v : Int} (h : 0 ≤ v ∧ v < W128) : (0 ≤ dA v ∧ dA v < 4294967296) ∧ (0 ≤ dB v ∧ dB v < 4294967296) ∧ (0 ≤ dC v ∧ dC v < 4294967296) ∧ 0 ≤ dD v ∧ dD v < 4294967296 := by
  unfold dA dB dC dD; unfold W128 at h; omega
theorem dg_eq {v : Int} (h : 0 ≤ v ∧ v < W128) : v = dA v + dB v * 4294967296 + dC v * 18446744073709551616 + dD v * 79228162514264337593543950336 := by
  unfold dA dB dC dD; unfold W128 at h; omega
theorem dg_mk {v a b c d : Int} (ha : 0 ≤ a ∧ a < 4294967296) (hb : 0 ≤ b ∧ b < 4294967296) (hc : 0 ≤ c ∧ c < 4294967296) (hd : 0 ≤ d ∧ d < 4294967296) (h : v = a + b * 4294967296 + c * 18446744073709551616 + d * 79228162514264337593543950336) : a = dA v ∧ b = dB v ∧ c = dC v ∧ d = dD v := by
  unfold dA dB dC dD; subst h; omega
theorem dg_less {a b : Int} (ha : 0 ≤ a ∧ a < W128) (hb : 0 ≤ b ∧ b < W128) : (a < b) ↔ (dD a < dD b ∨ dD a = dD b ∧ (dC a < dC b ∨ dC a = dC b ∧ (dB a < dB b ∨ dB a = dB b ∧ dA a < dA b))) := by
  have e1 := dg_eq ha; have e2 := dg_eq hb
  have r1 := dg_rng ha; have r2 := dg_rng hb
  omega

set_option maxHeartbeats 4000000 in
set_option maxRecDepth 100000 in
theorem rOf_spec (v : Int) (hv : 0 ≤ v ∧ v < 18446744073709551616) (w : World) :
    Calls Tryd.prog 43 #[(u_ v)] w fun e w' => e = .returned (.agg #[(u_ (dA v)), (u_ (dB v)), (u_ (dC v)), (u_ (dD v))]) ∧ Fr [] w w' := by
  refine calls_of (args := [(u_ v)]) (penv [(u_ v)]) [] [] Tryd.func43 rfl rfl (look_penv _) (HS.nil w) ?_
  refine A.norm [(0, (u_ v))] [] (by exact ⟨rfl, trivial⟩) rfl ?_
  refine A.seq ?_
  refine A.region (A.goA1 [.al] [0, 2] (fun b1 => [(0, (u_ v)), (2, (p_ b1))]) (fun b1 => [blk b1 [(u_ 0), (u_ 0), (u_ 0), (u_ 0)] 40]) (fun b1 => []) (fun _ => T0) (fun _ => by kernel_rfl) (fun b1 => trivial) ?_)
  intro b1
  refine A.tn ?_
  refine A.seq ?_
  refine A.region (A.goP [.p] [(0, (u_ v)), (2, (p_ b1)), (3, (u_ v))] [] T0 (by kernel_rfl) trivial ?_)
  refine A.cons (A.q (some 4) (u_ (v % 4294967296)) (by kernel_rfl) (qt_as (congrArg (Value.int .u64) (u_tmod (by omega))) (qt_pure (v := .int .u64 (v.tmod 4294967296)) (by kernel_rfl) fun _ => by kernel_rfl)) ?_)
  refine A.goAS [.p, .w (v / 4294967296), .p, .st 0] [(0, (u_ v)), (2, (p_ b1))] [blk b1 [(u_ (v % 4294967296)), (u_ (v / 4294967296)), (u_ 0), (u_ 0)] 40] [b1] (fun κ => (IntKind.u64.wrap (v.tdiv 4294967296) = v / 4294967296) ∧ True) (by kernel_rfl) ⟨(u_tdiv (by omega) (by decide)), trivial⟩ ?_
  refine A.tn ?_
  refine A.ret ?_
  refine A.postQ [(.agg #[(u_ (v % 4294967296)), (u_ (v / 4294967296)), (u_ 0), (u_ 0)])] (fun aa ww rr ss => ⟨rv_cellN (vs := [(u_ (v % 4294967296)), (u_ (v / 4294967296)), (u_ 0), (u_ 0)]) rr ss rfl (by kernel_rfl) (reads_blk (i := 0) rfl rfl), trivial⟩) ?_
  show ((.agg #[(u_ (v % 4294967296)), (u_ (v / 4294967296)), (u_ 0), (u_ 0)]) : Value) = (.agg #[(u_ (dA v)), (u_ (dB v)), (u_ (dC v)), (u_ (dD v))])
  unfold dA dB dC dD; rw [show v / 4294967296 % 4294967296 = v / 4294967296 by omega, show v / 18446744073709551616 % 4294967296 = 0 by omega, show v / 79228162514264337593543950336 = 0 by omega]

set_option maxHeartbeats 4000000 in
set_option maxRecDepth 100000 in
theorem rHi_spec (a : Int) (ha : 0 ≤ a ∧ a < W128) (w : World) :
    Calls Tryd.prog 59 #[(.agg #[(u_ (dA a)), (u_ (dB a)), (u_ (dC a)), (u_ (dD a))])] w fun e w' => e = .returned (u_ (nH a)) ∧ Fr [] w w' := by
  have e1 := dg_eq ha; have r1 := dg_rng ha
  refine calls_of (args := [(.agg #[(u_ (dA a)), (u_ (dB a)), (u_ (dC a)), (u_ (dD a))])]) (penv [(.agg #[(u_ (dA a)), (u_ (dB a)), (u_ (dC a)), (u_ (dD a))])]) [] [] Tryd.func59 rfl rfl (look_penv _) (HS.nil w) ?_
  refine A.norm [(0, (.agg #[(u_ (dA a)), (u_ (dB a)), (u_ (dC a)), (u_ (dD a))]))] [] (by exact ⟨rfl, trivial⟩) rfl ?_
  refine A.seq ?_
  refine A.region (A.goA1 [.al, .p] [0, 1, 2] (fun b1 => [(0, (.agg #[(u_ (dA a)), (u_ (dB a)), (u_ (dC a)), (u_ (dD a))])), (1, (p_ b1)), (2, (u_ 0))]) (fun b1 => [blk b1 [(u_ (dA a)), (u_ (dB a)), (u_ (dC a)), (u_ (dD a))] 40]) (fun b1 => []) (fun _ => T0) (fun _ => by kernel_rfl) (fun b1 => trivial) ?_)
  intro b1
  refine A.tn ?_
  refine A.seq ?_
  refine A.region (A.goA [.p, .ld 0, .w ((dD a) * 4294967296), .p, .ld 0, .w (((dD a) * 4294967296) + (dC a)), .p] [(0, (.agg #[(u_ (dA a)), (u_ (dB a)), (u_ (dC a)), (u_ (dD a))])), (1, (p_ b1)), (2, (u_ (((dD a) * 4294967296) + (dC a))))] [b1, b1] (fun κ => (IntKind.u64.wrap ((dD a) * 4294967296) = ((dD a) * 4294967296)) ∧ (IntKind.u64.wrap (((dD a) * 4294967296) + (dC a)) = (((dD a) * 4294967296) + (dC a))) ∧ True) (by kernel_rfl) ⟨(wrap_u64 (e := (dD a) * 4294967296) (by constructor <;> omega)), (wrap_u64 (e := ((dD a) * 4294967296) + (dC a)) (by constructor <;> omega)), trivial⟩ ?_)
  refine A.tn ?_
  refine A.ret ?_
  refine A.postQ [(u_ (((dD a) * 4294967296) + (dC a)))] (fun aa ww rr ss => ⟨rv_tmp rr rfl, trivial⟩) ?_
  show ((u_ (((dD a) * 4294967296) + (dC a))) : Value) = (u_ (nH a))
  refine congrArg (Value.int .u64) ?_; unfold nH; unfold W128 at *; omega

set_option maxHeartbeats 4000000 in
set_option maxRecDepth 100000 in
theorem rLo_spec (a : Int) (ha : 0 ≤ a ∧ a < W128) (w : World) :
    Calls Tryd.prog 60 #[(.agg #[(u_ (dA a)), (u_ (dB a)), (u_ (dC a)), (u_ (dD a))])] w fun e w' => e = .returned (u_ (nL a)) ∧ Fr [] w w' := by
  have e1 := dg_eq ha; have r1 := dg_rng ha
  refine calls_of (args := [(.agg #[(u_ (dA a)), (u_ (dB a)), (u_ (dC a)), (u_ (dD a))])]) (penv [(.agg #[(u_ (dA a)), (u_ (dB a)), (u_ (dC a)), (u_ (dD a))])]) [] [] Tryd.func60 rfl rfl (look_penv _) (HS.nil w) ?_
  refine A.norm [(0, (.agg #[(u_ (dA a)), (u_ (dB a)), (u_ (dC a)), (u_ (dD a))]))] [] (by exact ⟨rfl, trivial⟩) rfl ?_
  refine A.seq ?_
  refine A.region (A.goA1 [.al, .p] [0, 1, 2] (fun b1 => [(0, (.agg #[(u_ (dA a)), (u_ (dB a)), (u_ (dC a)), (u_ (dD a))])), (1, (p_ b1)), (2, (u_ 0))]) (fun b1 => [blk b1 [(u_ (dA a)), (u_ (dB a)), (u_ (dC a)), (u_ (dD a))] 40]) (fun b1 => []) (fun _ => T0) (fun _ => by kernel_rfl) (fun b1 => trivial) ?_)
  intro b1
  refine A.tn ?_
  refine A.seq ?_
  refine A.region (A.goA [.p, .ld 0, .w ((dB a) * 4294967296), .p, .ld 0, .w (((dB a) * 4294967296) + (dA a)), .p] [(0, (.agg #[(u_ (dA a)), (u_ (dB a)), (u_ (dC a)), (u_ (dD a))])), (1, (p_ b1)), (2, (u_ (((dB a) * 4294967296) + (dA a))))] [b1, b1] (fun κ => (IntKind.u64.wrap ((dB a) * 4294967296) = ((dB a) * 4294967296)) ∧ (IntKind.u64.wrap (((dB a) * 4294967296) + (dA a)) = (((dB a) * 4294967296) + (dA a))) ∧ True) (by kernel_rfl) ⟨(wrap_u64 (e := (dB a) * 4294967296) (by constructor <;> omega)), (wrap_u64 (e := ((dB a) * 4294967296) + (dA a)) (by constructor <;> omega)), trivial⟩ ?_)
  refine A.tn ?_
  refine A.ret ?_
  refine A.postQ [(u_ (((dB a) * 4294967296) + (dA a)))] (fun aa ww rr ss => ⟨rv_tmp rr rfl, trivial⟩) ?_
  show ((u_ (((dB a) * 4294967296) + (dA a))) : Value) = (u_ (nL a))
  refine congrArg (Value.int .u64) ?_; unfold nL; unfold W128 at *; omega

set_option maxHeartbeats 4000000 in
set_option maxRecDepth 100000 in
theorem rLess_spec (a b : Int) (ha : 0 ≤ a ∧ a < W128) (hb : 0 ≤ b ∧ b < W128) (w : World) :
    Calls Tryd.prog 25 #[(.agg #[(u_ (dA a)), (u_ (dB a)), (u_ (dC a)), (u_ (dD a))]), (.agg #[(u_ (dA b)), (u_ (dB b)), (u_ (dC b)), (u_ (dD b))])] w fun e w' => e = .returned (b_ (decide (a < b))) ∧ Fr [] w w' := by
  have r1 := dg_rng ha; have r2 := dg_rng hb
  have hl := dg_less ha hb
  refine calls_of (args := [(.agg #[(u_ (dA a)), (u_ (dB a)), (u_ (dC a)), (u_ (dD a))]), (.agg #[(u_ (dA b)), (u_ (dB b)), (u_ (dC b)), (u_ (dD b))])]) (penv [(.agg #[(u_ (dA a)), (u_ (dB a)), (u_ (dC a)), (u_ (dD a))]), (.agg #[(u_ (dA b)), (u_ (dB b)), (u_ (dC b)), (u_ (dD b))])]) [] [] Tryd.func25 rfl rfl (look_penv _) (HS.nil w) ?_
  refine A.norm [(0, (.agg #[(u_ (dA a)), (u_ (dB a)), (u_ (dC a)), (u_ (dD a))])), (1, (.agg #[(u_ (dA b)), (u_ (dB b)), (u_ (dC b)), (u_ (dD b))]))] [] (by exact ⟨rfl, rfl, trivial⟩) rfl ?_
  refine A.seq ?_
  refine A.region (A.goA2 [.al, .al, .p] [0, 1, 2, 3, 4] (fun b1 b2 => [(0, (.agg #[(u_ (dA a)), (u_ (dB a)), (u_ (dC a)), (u_ (dD a))])), (1, (.agg #[(u_ (dA b)), (u_ (dB b)), (u_ (dC b)), (u_ (dD b))])), (2, (p_ b1)), (3, (p_ b2)), (4, (b_ false))]) (fun b1 b2 => [blk b1 [(u_ (dA a)), (u_ (dB a)), (u_ (dC a)), (u_ (dD a))] 40, blk b2 [(u_ (dA b)), (u_ (dB b)), (u_ (dC b)), (u_ (dD b))] 40]) (fun b1 b2 => []) (fun _ _ => T0) (fun _ _ => by kernel_rfl) (fun b1 b2 => trivial) ?_)
  intro b1 b2
  refine A.tn ?_
  refine A.seq ?_
  refine A.seq ?_
  refine A.region (A.goA [.p] [(0, (.agg #[(u_ (dA a)), (u_ (dB a)), (u_ (dC a)), (u_ (dD a))])), (1, (.agg #[(u_ (dA b)), (u_ (dB b)), (u_ (dC b)), (u_ (dD b))])), (2, (p_ b1)), (3, (p_ b2)), (4, (b_ false)), (6, (i_ 0))] [] T0 (by kernel_rfl) trivial ?_)
  refine A.tn ?_
  refine A.block ?_
  refine A.unroll 400 ?_
  refine A.sub [(2, (p_ b1)), (3, (p_ b2)), (4, (b_ false)), (6, (i_ 0))] (by exact ⟨rfl, rfl, rfl, rfl, trivial⟩) (A.turnk (m := 399) ?_)
  refine A.seq ?_
  refine A.region (A.goA [.p] [(2, (p_ b1)), (3, (p_ b2)), (4, (b_ false)), (6, (i_ 0)), (7, (b_ true))] [] T0 (by kernel_rfl) trivial ?_)
  refine A.tn ?_
  refine A.seq ?_
  refine A.cond_t rfl ?_
  refine A.skip ?_
  refine A.tn ?_
  refine A.seq ?_
  refine A.block ?_
  refine A.seq ?_
  refine A.region (A.goA [.p, .p] [(2, (p_ b1)), (3, (p_ b2)), (4, (b_ false)), (6, (i_ 0)), (7, (b_ true)), (5, (i_ 0))] [] T0 (by kernel_rfl) trivial ?_)
  refine A.tn ?_
  refine A.seq ?_
  refine A.drawA [.p, .p, .p, .ld 0, .p, .p, .p, .ld 1, .p] [0, 1, 2, 3, 4, 5, 6, 7, 8] [(2, (p_ b1)), (3, (p_ b2)), (4, (b_ false)), (6, (i_ 0)), (7, (b_ true)), (5, (i_ 0)), (17, (b_ ((dD a) != (dD b))))] [b1, b2] T0 (by kernel_rfl) (by kernel_rfl) trivial ?_
  refine A.tn ?_
  refine A.cond (E := (dD a) != (dD b)) rfl (fun e1 => ?_) (fun e1 => ?_)
  · skip
    have p1 := e1; try simp only [nrm] at p1
    refine A.seq ?_
    refine A.drawA [.p, .p, .p, .ld 0, .p, .p, .p, .ld 1, .p, .p] [0, 1, 2, 3, 4, 5, 6, 7, 8, 9] [(2, (p_ b1)), (3, (p_ b2)), (4, (b_ (decide ((dD a) < (dD b))))), (6, (i_ 0)), (7, (b_ true)), (5, (i_ 0)), (17, (b_ ((dD a) != (dD b))))] [b1, b2] T0 (by kernel_rfl) (by kernel_rfl) trivial ?_
    refine A.tn ?_
    refine A.ret ?_
    refine A.br ?_
    refine A.tr ?_
    refine A.tr ?_
    refine A.br ?_
    refine A.tr ?_
    refine A.postQ [(b_ (decide ((dD a) < (dD b))))] (fun aa ww rr ss => ⟨rv_tmp rr rfl, trivial⟩) ?_
    show ((b_ (decide ((dD a) < (dD b)))) : Value) = (b_ (decide (a < b)))
    refine congrArg Value.bool ?_; rw [Bool.eq_iff_iff]; simp only [decide_eq_true_eq, Bool.false_eq_true, hl]; simp_all; done
  · skip
    have p1 := e1; try simp only [nrm] at p1
    refine A.skip ?_
    refine A.bn ?_
    refine A.tn ?_
    refine A.region (A.goA [.p, .p] [(2, (p_ b1)), (3, (p_ b2)), (4, (b_ false)), (6, (i_ 1)), (7, (b_ true)), (5, (i_ 0)), (17, (b_ ((dD a) != (dD b))))] [] T0 (by kernel_rfl) trivial ?_)
    refine A.tn ?_
    refine A.turnk (m := 398) ?_
    refine A.seq ?_
    refine A.region (A.goA [.p] [(2, (p_ b1)), (3, (p_ b2)), (4, (b_ false)), (6, (i_ 1)), (7, (b_ true)), (5, (i_ 0)), (17, (b_ ((dD a) != (dD b))))] [] T0 (by kernel_rfl) trivial ?_)
    refine A.tn ?_
    refine A.seq ?_
    refine A.cond_t rfl ?_
    refine A.skip ?_
    refine A.tn ?_
    refine A.seq ?_
    refine A.block ?_
    refine A.seq ?_
    refine A.region (A.goA [.p, .p] [(2, (p_ b1)), (3, (p_ b2)), (4, (b_ false)), (6, (i_ 1)), (7, (b_ true)), (5, (i_ 1)), (17, (b_ ((dD a) != (dD b))))] [] T0 (by kernel_rfl) trivial ?_)
    refine A.tn ?_
    refine A.seq ?_
    refine A.drawA [.p, .p, .p, .ld 0, .p, .p, .p, .ld 1, .p] [0, 1, 2, 3, 4, 5, 6, 7, 8] [(2, (p_ b1)), (3, (p_ b2)), (4, (b_ false)), (6, (i_ 1)), (7, (b_ true)), (5, (i_ 1)), (17, (b_ ((dC a) != (dC b))))] [b1, b2] T0 (by kernel_rfl) (by kernel_rfl) trivial ?_
    refine A.tn ?_
    refine A.cond (E := (dC a) != (dC b)) rfl (fun e2 => ?_) (fun e2 => ?_)
    · skip
      have p2 := e2; try simp only [nrm] at p2
      refine A.seq ?_
      refine A.drawA [.p, .p, .p, .ld 0, .p, .p, .p, .ld 1, .p, .p] [0, 1, 2, 3, 4, 5, 6, 7, 8, 9] [(2, (p_ b1)), (3, (p_ b2)), (4, (b_ (decide ((dC a) < (dC b))))), (6, (i_ 1)), (7, (b_ true)), (5, (i_ 1)), (17, (b_ ((dC a) != (dC b))))] [b1, b2] T0 (by kernel_rfl) (by kernel_rfl) trivial ?_
      refine A.tn ?_
      refine A.ret ?_
      refine A.br ?_
      refine A.tr ?_
      refine A.tr ?_
      refine A.br ?_
      refine A.tr ?_
      refine A.postQ [(b_ (decide ((dC a) < (dC b))))] (fun aa ww rr ss => ⟨rv_tmp rr rfl, trivial⟩) ?_
      show ((b_ (decide ((dC a) < (dC b)))) : Value) = (b_ (decide (a < b)))
      refine congrArg Value.bool ?_; rw [Bool.eq_iff_iff]; simp only [decide_eq_true_eq, Bool.false_eq_true, hl]; simp_all; done
    · skip
      have p2 := e2; try simp only [nrm] at p2
      refine A.skip ?_
      refine A.bn ?_
      refine A.tn ?_
      refine A.region (A.goA [.p, .p] [(2, (p_ b1)), (3, (p_ b2)), (4, (b_ false)), (6, (i_ 2)), (7, (b_ true)), (5, (i_ 1)), (17, (b_ ((dC a) != (dC b))))] [] T0 (by kernel_rfl) trivial ?_)
      refine A.tn ?_
      refine A.turnk (m := 397) ?_
      refine A.seq ?_
      refine A.region (A.goA [.p] [(2, (p_ b1)), (3, (p_ b2)), (4, (b_ false)), (6, (i_ 2)), (7, (b_ true)), (5, (i_ 1)), (17, (b_ ((dC a) != (dC b))))] [] T0 (by kernel_rfl) trivial ?_)
      refine A.tn ?_
      refine A.seq ?_
      refine A.cond_t rfl ?_
      refine A.skip ?_
      refine A.tn ?_
      refine A.seq ?_
      refine A.block ?_
      refine A.seq ?_
      refine A.region (A.goA [.p, .p] [(2, (p_ b1)), (3, (p_ b2)), (4, (b_ false)), (6, (i_ 2)), (7, (b_ true)), (5, (i_ 2)), (17, (b_ ((dC a) != (dC b))))] [] T0 (by kernel_rfl) trivial ?_)
      refine A.tn ?_
      refine A.seq ?_
      refine A.drawA [.p, .p, .p, .ld 0, .p, .p, .p, .ld 1, .p] [0, 1, 2, 3, 4, 5, 6, 7, 8] [(2, (p_ b1)), (3, (p_ b2)), (4, (b_ false)), (6, (i_ 2)), (7, (b_ true)), (5, (i_ 2)), (17, (b_ ((dB a) != (dB b))))] [b1, b2] T0 (by kernel_rfl) (by kernel_rfl) trivial ?_
      refine A.tn ?_
      refine A.cond (E := (dB a) != (dB b)) rfl (fun e3 => ?_) (fun e3 => ?_)
      · skip
        have p3 := e3; try simp only [nrm] at p3
        refine A.seq ?_
        refine A.drawA [.p, .p, .p, .ld 0, .p, .p, .p, .ld 1, .p, .p] [0, 1, 2, 3, 4, 5, 6, 7, 8, 9] [(2, (p_ b1)), (3, (p_ b2)), (4, (b_ (decide ((dB a) < (dB b))))), (6, (i_ 2)), (7, (b_ true)), (5, (i_ 2)), (17, (b_ ((dB a) != (dB b))))] [b1, b2] T0 (by kernel_rfl) (by kernel_rfl) trivial ?_
        refine A.tn ?_
        refine A.ret ?_
        refine A.br ?_
        refine A.tr ?_
        refine A.tr ?_
        refine A.br ?_
        refine A.tr ?_
        refine A.postQ [(b_ (decide ((dB a) < (dB b))))] (fun aa ww rr ss => ⟨rv_tmp rr rfl, trivial⟩) ?_
        show ((b_ (decide ((dB a) < (dB b)))) : Value) = (b_ (decide (a < b)))
        refine congrArg Value.bool ?_; rw [Bool.eq_iff_iff]; simp only [decide_eq_true_eq, Bool.false_eq_true, hl]; simp_all; done
      · skip
        have p3 := e3; try simp only [nrm] at p3
        refine A.skip ?_
        refine A.bn ?_
        refine A.tn ?_
        refine A.region (A.goA [.p, .p] [(2, (p_ b1)), (3, (p_ b2)), (4, (b_ false)), (6, (i_ 3)), (7, (b_ true)), (5, (i_ 2)), (17, (b_ ((dB a) != (dB b))))] [] T0 (by kernel_rfl) trivial ?_)
        refine A.tn ?_
        refine A.turnk (m := 396) ?_
        refine A.seq ?_
        refine A.region (A.goA [.p] [(2, (p_ b1)), (3, (p_ b2)), (4, (b_ false)), (6, (i_ 3)), (7, (b_ true)), (5, (i_ 2)), (17, (b_ ((dB a) != (dB b))))] [] T0 (by kernel_rfl) trivial ?_)
        refine A.tn ?_
        refine A.seq ?_
        refine A.cond_t rfl ?_
        refine A.skip ?_
        refine A.tn ?_
        refine A.seq ?_
        refine A.block ?_
        refine A.seq ?_
        refine A.region (A.goA [.p, .p] [(2, (p_ b1)), (3, (p_ b2)), (4, (b_ false)), (6, (i_ 3)), (7, (b_ true)), (5, (i_ 3)), (17, (b_ ((dB a) != (dB b))))] [] T0 (by kernel_rfl) trivial ?_)
        refine A.tn ?_
        refine A.seq ?_
        refine A.drawA [.p, .p, .p, .ld 0, .p, .p, .p, .ld 1, .p] [0, 1, 2, 3, 4, 5, 6, 7, 8] [(2, (p_ b1)), (3, (p_ b2)), (4, (b_ false)), (6, (i_ 3)), (7, (b_ true)), (5, (i_ 3)), (17, (b_ ((dA a) != (dA b))))] [b1, b2] T0 (by kernel_rfl) (by kernel_rfl) trivial ?_
        refine A.tn ?_
        refine A.cond (E := (dA a) != (dA b)) rfl (fun e4 => ?_) (fun e4 => ?_)
        · skip
          have p4 := e4; try simp only [nrm] at p4
          refine A.seq ?_
          refine A.drawA [.p, .p, .p, .ld 0, .p, .p, .p, .ld 1, .p, .p] [0, 1, 2, 3, 4, 5, 6, 7, 8, 9] [(2, (p_ b1)), (3, (p_ b2)), (4, (b_ (decide ((dA a) < (dA b))))), (6, (i_ 3)), (7, (b_ true)), (5, (i_ 3)), (17, (b_ ((dA a) != (dA b))))] [b1, b2] T0 (by kernel_rfl) (by kernel_rfl) trivial ?_
          refine A.tn ?_
          refine A.ret ?_
          refine A.br ?_
          refine A.tr ?_
          refine A.tr ?_
          refine A.br ?_
          refine A.tr ?_
          refine A.postQ [(b_ (decide ((dA a) < (dA b))))] (fun aa ww rr ss => ⟨rv_tmp rr rfl, trivial⟩) ?_
          show ((b_ (decide ((dA a) < (dA b)))) : Value) = (b_ (decide (a < b)))
          refine congrArg Value.bool ?_; rw [Bool.eq_iff_iff]; simp only [decide_eq_true_eq, Bool.false_eq_true, hl]; simp_all; done
        · skip
          have p4 := e4; try simp only [nrm] at p4
          refine A.skip ?_
          refine A.bn ?_
          refine A.tn ?_
          refine A.region (A.goA [.p, .p] [(2, (p_ b1)), (3, (p_ b2)), (4, (b_ false)), (6, (i_ 4)), (7, (b_ true)), (5, (i_ 3)), (17, (b_ ((dA a) != (dA b))))] [] T0 (by kernel_rfl) trivial ?_)
          refine A.tn ?_
          refine A.turnk (m := 395) ?_
          refine A.seq ?_
          refine A.region (A.goA [.p] [(2, (p_ b1)), (3, (p_ b2)), (4, (b_ false)), (6, (i_ 4)), (7, (b_ false)), (5, (i_ 3)), (17, (b_ ((dA a) != (dA b))))] [] T0 (by kernel_rfl) trivial ?_)
          refine A.tn ?_
          refine A.seq ?_
          refine A.cond_f rfl ?_
          refine A.exit ?_
          refine A.te ?_
          refine A.te ?_
          refine A.bh ?_
          refine A.tn ?_
          refine A.seq ?_
          refine A.region (A.goA [.p] [(2, (p_ b1)), (3, (p_ b2)), (4, (b_ false)), (6, (i_ 4)), (7, (b_ false)), (5, (i_ 3)), (17, (b_ ((dA a) != (dA b))))] [] T0 (by kernel_rfl) trivial ?_)
          refine A.tn ?_
          refine A.ret ?_
          refine A.postQ [(b_ false)] (fun aa ww rr ss => ⟨rv_tmp rr rfl, trivial⟩) ?_
          show ((b_ false) : Value) = (b_ (decide (a < b)))
          refine congrArg Value.bool ?_; rw [Bool.eq_iff_iff]; simp only [decide_eq_true_eq, Bool.false_eq_true, hl]; simp_all; done

set_option maxHeartbeats 4000000 in
set_option maxRecDepth 100000 in
theorem rAdd_spec (a b : Int) (ha : 0 ≤ a ∧ a < W128) (hb : 0 ≤ b ∧ b < W128) (w : World) :
    Calls Tryd.prog 61 #[(.agg #[(u_ (dA a)), (u_ (dB a)), (u_ (dC a)), (u_ (dD a))]), (.agg #[(u_ (dA b)), (u_ (dB b)), (u_ (dC b)), (u_ (dD b))])] w fun e w' => e = .returned (.tuple #[(.agg #[(u_ (dA ((a + b) % 340282366920938463463374607431768211456))), (u_ (dB ((a + b) % 340282366920938463463374607431768211456))), (u_ (dC ((a + b) % 340282366920938463463374607431768211456))), (u_ (dD ((a + b) % 340282366920938463463374607431768211456)))]), (u_ ((a + b) / 340282366920938463463374607431768211456))]) ∧ Fr [] w w' := by
  have r1 := dg_rng ha; have r2 := dg_rng hb
  have e1 := dg_eq ha; have e2 := dg_eq hb
  refine calls_of (args := [(.agg #[(u_ (dA a)), (u_ (dB a)), (u_ (dC a)), (u_ (dD a))]), (.agg #[(u_ (dA b)), (u_ (dB b)), (u_ (dC b)), (u_ (dD b))])]) (penv [(.agg #[(u_ (dA a)), (u_ (dB a)), (u_ (dC a)), (u_ (dD a))]), (.agg #[(u_ (dA b)), (u_ (dB b)), (u_ (dC b)), (u_ (dD b))])]) [] [] Tryd.func61 rfl rfl (look_penv _) (HS.nil w) ?_
  refine A.norm [(0, (.agg #[(u_ (dA a)), (u_ (dB a)), (u_ (dC a)), (u_ (dD a))])), (1, (.agg #[(u_ (dA b)), (u_ (dB b)), (u_ (dC b)), (u_ (dD b))]))] [] (by exact ⟨rfl, rfl, trivial⟩) rfl ?_
  refine A.seq ?_
  refine A.region (A.goA3 [.al, .al, .al, .p] [0, 1, 2, 3, 4, 5] (fun b1 b2 b3 => [(0, (.agg #[(u_ (dA a)), (u_ (dB a)), (u_ (dC a)), (u_ (dD a))])), (1, (.agg #[(u_ (dA b)), (u_ (dB b)), (u_ (dC b)), (u_ (dD b))])), (2, (p_ b1)), (3, (p_ b2)), (4, (p_ b3)), (5, (u_ 0))]) (fun b1 b2 b3 => [blk b1 [(u_ (dA a)), (u_ (dB a)), (u_ (dC a)), (u_ (dD a))] 40, blk b2 [(u_ (dA b)), (u_ (dB b)), (u_ (dC b)), (u_ (dD b))] 40, blk b3 [(u_ 0), (u_ 0), (u_ 0), (u_ 0)] 40]) (fun b1 b2 b3 => []) (fun _ _ _ => T0) (fun _ _ _ => by kernel_rfl) (fun b1 b2 b3 => trivial) ?_)
  intro b1 b2 b3
  refine A.tn ?_
  refine A.seq ?_
  refine A.region (A.goA1 [.p, .al, .st 3] [0, 1, 2, 3, 4, 5, 6] (fun b4 => [(0, (.agg #[(u_ (dA a)), (u_ (dB a)), (u_ (dC a)), (u_ (dD a))])), (1, (.agg #[(u_ (dA b)), (u_ (dB b)), (u_ (dC b)), (u_ (dD b))])), (2, (p_ b1)), (3, (p_ b2)), (4, (p_ b3)), (5, (u_ 0)), (6, (p_ b4))]) (fun b4 => [blk b1 [(u_ (dA a)), (u_ (dB a)), (u_ (dC a)), (u_ (dD a))] 40, blk b2 [(u_ (dA b)), (u_ (dB b)), (u_ (dC b)), (u_ (dD b))] 40, blk b3 [(u_ 0), (u_ 0), (u_ 0), (u_ 0)] 40, blk b4 [(u_ 0), (u_ 0), (u_ 0), (u_ 0)] 40]) (fun b4 => [b4]) (fun _ => T0) (fun _ => by kernel_rfl) (fun b4 => trivial) ?_)
  intro b4
  refine A.tn ?_
  refine A.seq ?_
  refine A.region (A.goA [.p] [(0, (.agg #[(u_ (dA a)), (u_ (dB a)), (u_ (dC a)), (u_ (dD a))])), (1, (.agg #[(u_ (dA b)), (u_ (dB b)), (u_ (dC b)), (u_ (dD b))])), (2, (p_ b1)), (3, (p_ b2)), (4, (p_ b3)), (5, (u_ 0)), (6, (p_ b4)), (7, (u_ 0))] [] T0 (by kernel_rfl) trivial ?_)
  refine A.tn ?_
  refine A.seq ?_
  refine A.seq ?_
  refine A.region (A.goA [.p] [(0, (.agg #[(u_ (dA a)), (u_ (dB a)), (u_ (dC a)), (u_ (dD a))])), (1, (.agg #[(u_ (dA b)), (u_ (dB b)), (u_ (dC b)), (u_ (dD b))])), (2, (p_ b1)), (3, (p_ b2)), (4, (p_ b3)), (5, (u_ 0)), (6, (p_ b4)), (7, (u_ 0)), (11, (i_ 0))] [] T0 (by kernel_rfl) trivial ?_)
  refine A.tn ?_
  refine A.block ?_
  refine A.unroll 400 ?_
  refine A.sub [(2, (p_ b1)), (3, (p_ b2)), (4, (p_ b3)), (5, (u_ 0)), (6, (p_ b4)), (7, (u_ 0)), (11, (i_ 0))] (by exact ⟨rfl, rfl, rfl, rfl, rfl, rfl, rfl, trivial⟩) (A.turnk (m := 399) ?_)
  refine A.seq ?_
  refine A.region (A.goA [.p] [(2, (p_ b1)), (3, (p_ b2)), (4, (p_ b3)), (5, (u_ 0)), (6, (p_ b4)), (7, (u_ 0)), (11, (i_ 0)), (12, (b_ true))] [] T0 (by kernel_rfl) trivial ?_)
  refine A.tn ?_
  refine A.seq ?_
  refine A.cond_t rfl ?_
  refine A.skip ?_
  refine A.tn ?_
  refine A.seq ?_
  refine A.block ?_
  refine A.seq ?_
  refine A.region (A.goA [.p, .p] [(2, (p_ b1)), (3, (p_ b2)), (4, (p_ b3)), (5, (u_ 0)), (6, (p_ b4)), (7, (u_ 0)), (11, (i_ 0)), (12, (b_ true)), (8, (i_ 0))] [] T0 (by kernel_rfl) trivial ?_)
  refine A.tn ?_
  refine A.seq ?_
  refine A.drawA [.p, .p, .ld 0, .p, .p, .ld 1, .w ((dA a) + (dA b)), .p, .w (((dA a) + (dA b)) + 0), .p] [0, 1, 2, 3, 4, 5, 6, 7, 8, 9] [(2, (p_ b1)), (3, (p_ b2)), (4, (p_ b3)), (5, (u_ 0)), (6, (p_ b4)), (7, (u_ 0)), (11, (i_ 0)), (12, (b_ true)), (8, (i_ 0)), (9, (u_ (((dA a) + (dA b)) + 0)))] [b1, b2] (fun κ => (IntKind.u64.wrap ((dA a) + (dA b)) = ((dA a) + (dA b))) ∧ (IntKind.u64.wrap (((dA a) + (dA b)) + 0) = (((dA a) + (dA b)) + 0)) ∧ True) (by kernel_rfl) (by kernel_rfl) ⟨(wrap_u64 (e := (dA a) + (dA b)) (by constructor <;> omega)), (wrap_u64 (e := ((dA a) + (dA b)) + 0) (by constructor <;> omega)), trivial⟩ ?_
  refine A.tn ?_
  refine A.seq ?_
  refine A.region (A.goP [.p, .p] [(2, (p_ b1)), (3, (p_ b2)), (4, (p_ b3)), (5, (u_ 0)), (6, (p_ b4)), (7, (u_ 0)), (11, (i_ 0)), (12, (b_ true)), (8, (i_ 0)), (9, (u_ (((dA a) + (dA b)) + 0))), (23, (i_ 0)), (24, (u_ (((dA a) + (dA b)) + 0)))] [] T0 (by kernel_rfl) trivial ?_)
  refine A.cons (A.q (some 25) (u_ ((((dA a) + (dA b)) + 0) % 4294967296)) (by kernel_rfl) (qt_as (congrArg (Value.int .u64) (u_tmod (by omega))) (qt_pure (v := .int .u64 ((((dA a) + (dA b)) + 0).tmod 4294967296)) (by kernel_rfl) fun _ => by kernel_rfl)) ?_)
  refine A.goAS [.p, .st 3] [(2, (p_ b1)), (3, (p_ b2)), (4, (p_ b3)), (5, (u_ 0)), (6, (p_ b4)), (7, (u_ 0)), (11, (i_ 0)), (12, (b_ true)), (8, (i_ 0)), (9, (u_ (((dA a) + (dA b)) + 0)))] [blk b1 [(u_ (dA a)), (u_ (dB a)), (u_ (dC a)), (u_ (dD a))] 40, blk b2 [(u_ (dA b)), (u_ (dB b)), (u_ (dC b)), (u_ (dD b))] 40, blk b3 [(u_ 0), (u_ 0), (u_ 0), (u_ 0)] 40, blk b4 [(u_ ((((dA a) + (dA b)) + 0) % 4294967296)), (u_ 0), (u_ 0), (u_ 0)] 40] [b4] T0 (by kernel_rfl) trivial ?_
  refine A.tn ?_
  refine A.region (A.goA [.p, .w ((((dA a) + (dA b)) + 0) / 4294967296), .p] [(2, (p_ b1)), (3, (p_ b2)), (4, (p_ b3)), (5, (u_ 0)), (6, (p_ b4)), (7, (u_ ((((dA a) + (dA b)) + 0) / 4294967296))), (11, (i_ 0)), (12, (b_ true)), (8, (i_ 0)), (9, (u_ (((dA a) + (dA b)) + 0)))] [] (fun κ => (IntKind.u64.wrap ((((dA a) + (dA b)) + 0).tdiv 4294967296) = (((dA a) + (dA b)) + 0) / 4294967296) ∧ True) (by kernel_rfl) ⟨(u_tdiv (by omega) (by decide)), trivial⟩ ?_)
  refine A.bn ?_
  refine A.tn ?_
  refine A.region (A.goA [.p, .p] [(2, (p_ b1)), (3, (p_ b2)), (4, (p_ b3)), (5, (u_ 0)), (6, (p_ b4)), (7, (u_ ((((dA a) + (dA b)) + 0) / 4294967296))), (11, (i_ 1)), (12, (b_ true)), (8, (i_ 0)), (9, (u_ (((dA a) + (dA b)) + 0)))] [] T0 (by kernel_rfl) trivial ?_)
  refine A.tn ?_
  refine A.turnk (m := 398) ?_
  refine A.seq ?_
  refine A.region (A.goA [.p] [(2, (p_ b1)), (3, (p_ b2)), (4, (p_ b3)), (5, (u_ 0)), (6, (p_ b4)), (7, (u_ ((((dA a) + (dA b)) + 0) / 4294967296))), (11, (i_ 1)), (12, (b_ true)), (8, (i_ 0)), (9, (u_ (((dA a) + (dA b)) + 0)))] [] T0 (by kernel_rfl) trivial ?_)
  refine A.tn ?_
  refine A.seq ?_
  refine A.cond_t rfl ?_
  refine A.skip ?_
  refine A.tn ?_
  refine A.seq ?_
  refine A.block ?_
  refine A.seq ?_
  refine A.region (A.goA [.p, .p] [(2, (p_ b1)), (3, (p_ b2)), (4, (p_ b3)), (5, (u_ 0)), (6, (p_ b4)), (7, (u_ ((((dA a) + (dA b)) + 0) / 4294967296))), (11, (i_ 1)), (12, (b_ true)), (8, (i_ 1)), (9, (u_ (((dA a) + (dA b)) + 0)))] [] T0 (by kernel_rfl) trivial ?_)
  refine A.tn ?_
  refine A.seq ?_
  refine A.drawA [.p, .p, .ld 0, .p, .p, .ld 1, .w ((dB a) + (dB b)), .p, .w (((dB a) + (dB b)) + ((((dA a) + (dA b)) + 0) / 4294967296)), .p] [0, 1, 2, 3, 4, 5, 6, 7, 8, 9] [(2, (p_ b1)), (3, (p_ b2)), (4, (p_ b3)), (5, (u_ 0)), (6, (p_ b4)), (7, (u_ ((((dA a) + (dA b)) + 0) / 4294967296))), (11, (i_ 1)), (12, (b_ true)), (8, (i_ 1)), (9, (u_ (((dB a) + (dB b)) + ((((dA a) + (dA b)) + 0) / 4294967296))))] [b1, b2] (fun κ => (IntKind.u64.wrap ((dB a) + (dB b)) = ((dB a) + (dB b))) ∧ (IntKind.u64.wrap (((dB a) + (dB b)) + ((((dA a) + (dA b)) + 0) / 4294967296)) = (((dB a) + (dB b)) + ((((dA a) + (dA b)) + 0) / 4294967296))) ∧ True) (by kernel_rfl) (by kernel_rfl) ⟨(wrap_u64 (e := (dB a) + (dB b)) (by constructor <;> omega)), (wrap_u64 (e := ((dB a) + (dB b)) + ((((dA a) + (dA b)) + 0) / 4294967296)) (by constructor <;> omega)), trivial⟩ ?_
  refine A.tn ?_
  refine A.seq ?_
  refine A.region (A.goP [.p, .p] [(2, (p_ b1)), (3, (p_ b2)), (4, (p_ b3)), (5, (u_ 0)), (6, (p_ b4)), (7, (u_ ((((dA a) + (dA b)) + 0) / 4294967296))), (11, (i_ 1)), (12, (b_ true)), (8, (i_ 1)), (9, (u_ (((dB a) + (dB b)) + ((((dA a) + (dA b)) + 0) / 4294967296)))), (23, (i_ 1)), (24, (u_ (((dB a) + (dB b)) + ((((dA a) + (dA b)) + 0) / 4294967296))))] [] T0 (by kernel_rfl) trivial ?_)
  refine A.cons (A.q (some 25) (u_ ((((dB a) + (dB b)) + ((((dA a) + (dA b)) + 0) / 4294967296)) % 4294967296)) (by kernel_rfl) (qt_as (congrArg (Value.int .u64) (u_tmod (by omega))) (qt_pure (v := .int .u64 ((((dB a) + (dB b)) + ((((dA a) + (dA b)) + 0) / 4294967296)).tmod 4294967296)) (by kernel_rfl) fun _ => by kernel_rfl)) ?_)
  refine A.goAS [.p, .st 3] [(2, (p_ b1)), (3, (p_ b2)), (4, (p_ b3)), (5, (u_ 0)), (6, (p_ b4)), (7, (u_ ((((dA a) + (dA b)) + 0) / 4294967296))), (11, (i_ 1)), (12, (b_ true)), (8, (i_ 1)), (9, (u_ (((dB a) + (dB b)) + ((((dA a) + (dA b)) + 0) / 4294967296))))] [blk b1 [(u_ (dA a)), (u_ (dB a)), (u_ (dC a)), (u_ (dD a))] 40, blk b2 [(u_ (dA b)), (u_ (dB b)), (u_ (dC b)), (u_ (dD b))] 40, blk b3 [(u_ 0), (u_ 0), (u_ 0), (u_ 0)] 40, blk b4 [(u_ ((((dA a) + (dA b)) + 0) % 4294967296)), (u_ ((((dB a) + (dB b)) + ((((dA a) + (dA b)) + 0) / 4294967296)) % 4294967296)), (u_ 0), (u_ 0)] 40] [b4] T0 (by kernel_rfl) trivial ?_
  refine A.tn ?_
  refine A.region (A.goA [.p, .w ((((dB a) + (dB b)) + ((((dA a) + (dA b)) + 0) / 4294967296)) / 4294967296), .p] [(2, (p_ b1)), (3, (p_ b2)), (4, (p_ b3)), (5, (u_ 0)), (6, (p_ b4)), (7, (u_ ((((dB a) + (dB b)) + ((((dA a) + (dA b)) + 0) / 4294967296)) / 4294967296))), (11, (i_ 1)), (12, (b_ true)), (8, (i_ 1)), (9, (u_ (((dB a) + (dB b)) + ((((dA a) + (dA b)) + 0) / 4294967296))))] [] (fun κ => (IntKind.u64.wrap ((((dB a) + (dB b)) + ((((dA a) + (dA b)) + 0) / 4294967296)).tdiv 4294967296) = (((dB a) + (dB b)) + ((((dA a) + (dA b)) + 0) / 4294967296)) / 4294967296) ∧ True) (by kernel_rfl) ⟨(u_tdiv (by omega) (by decide)), trivial⟩ ?_)
  refine A.bn ?_
  refine A.tn ?_
  refine A.region (A.goA [.p, .p] [(2, (p_ b1)), (3, (p_ b2)), (4, (p_ b3)), (5, (u_ 0)), (6, (p_ b4)), (7, (u_ ((((dB a) + (dB b)) + ((((dA a) + (dA b)) + 0) / 4294967296)) / 4294967296))), (11, (i_ 2)), (12, (b_ true)), (8, (i_ 1)), (9, (u_ (((dB a) + (dB b)) + ((((dA a) + (dA b)) + 0) / 4294967296))))] [] T0 (by kernel_rfl) trivial ?_)
  refine A.tn ?_
  refine A.turnk (m := 397) ?_
  refine A.seq ?_
  refine A.region (A.goA [.p] [(2, (p_ b1)), (3, (p_ b2)), (4, (p_ b3)), (5, (u_ 0)), (6, (p_ b4)), (7, (u_ ((((dB a) + (dB b)) + ((((dA a) + (dA b)) + 0) / 4294967296)) / 4294967296))), (11, (i_ 2)), (12, (b_ true)), (8, (i_ 1)), (9, (u_ (((dB a) + (dB b)) + ((((dA a) + (dA b)) + 0) / 4294967296))))] [] T0 (by kernel_rfl) trivial ?_)
  refine A.tn ?_
  refine A.seq ?_
  refine A.cond_t rfl ?_
  refine A.skip ?_
  refine A.tn ?_
  refine A.seq ?_
  refine A.block ?_
  refine A.seq ?_
  refine A.region (A.goA [.p, .p] [(2, (p_ b1)), (3, (p_ b2)), (4, (p_ b3)), (5, (u_ 0)), (6, (p_ b4)), (7, (u_ ((((dB a) + (dB b)) + ((((dA a) + (dA b)) + 0) / 4294967296)) / 4294967296))), (11, (i_ 2)), (12, (b_ true)), (8, (i_ 2)), (9, (u_ (((dB a) + (dB b)) + ((((dA a) + (dA b)) + 0) / 4294967296))))] [] T0 (by kernel_rfl) trivial ?_)
  refine A.tn ?_
  refine A.seq ?_
  refine A.drawA [.p, .p, .ld 0, .p, .p, .ld 1, .w ((dC a) + (dC b)), .p, .w (((dC a) + (dC b)) + ((((dB a) + (dB b)) + ((((dA a) + (dA b)) + 0) / 4294967296)) / 4294967296)), .p] [0, 1, 2, 3, 4, 5, 6, 7, 8, 9] [(2, (p_ b1)), (3, (p_ b2)), (4, (p_ b3)), (5, (u_ 0)), (6, (p_ b4)), (7, (u_ ((((dB a) + (dB b)) + ((((dA a) + (dA b)) + 0) / 4294967296)) / 4294967296))), (11, (i_ 2)), (12, (b_ true)), (8, (i_ 2)), (9, (u_ (((dC a) + (dC b)) + ((((dB a) + (dB b)) + ((((dA a) + (dA b)) + 0) / 4294967296)) / 4294967296))))] [b1, b2] (fun κ => (IntKind.u64.wrap ((dC a) + (dC b)) = ((dC a) + (dC b))) ∧ (IntKind.u64.wrap (((dC a) + (dC b)) + ((((dB a) + (dB b)) + ((((dA a) + (dA b)) + 0) / 4294967296)) / 4294967296)) = (((dC a) + (dC b)) + ((((dB a) + (dB b)) + ((((dA a) + (dA b)) + 0) / 4294967296)) / 4294967296))) ∧ True) (by kernel_rfl) (by kernel_rfl) ⟨(wrap_u64 (e := (dC a) + (dC b)) (by constructor <;> omega)), (wrap_u64 (e := ((dC a) + (dC b)) + ((((dB a) + (dB b)) + ((((dA a) + (dA b)) + 0) / 4294967296)) / 4294967296)) (by constructor <;> omega)), trivial⟩ ?_
  refine A.tn ?_
  refine A.seq ?_
  refine A.region (A.goP [.p, .p] [(2, (p_ b1)), (3, (p_ b2)), (4, (p_ b3)), (5, (u_ 0)), (6, (p_ b4)), (7, (u_ ((((dB a) + (dB b)) + ((((dA a) + (dA b)) + 0) / 4294967296)) / 4294967296))), (11, (i_ 2)), (12, (b_ true)), (8, (i_ 2)), (9, (u_ (((dC a) + (dC b)) + ((((dB a) + (dB b)) + ((((dA a) + (dA b)) + 0) / 4294967296)) / 4294967296)))), (23, (i_ 2)), (24, (u_ (((dC a) + (dC b)) + ((((dB a) + (dB b)) + ((((dA a) + (dA b)) + 0) / 4294967296)) / 4294967296))))] [] T0 (by kernel_rfl) trivial ?_)
  refine A.cons (A.q (some 25) (u_ ((((dC a) + (dC b)) + ((((dB a) + (dB b)) + ((((dA a) + (dA b)) + 0) / 4294967296)) / 4294967296)) % 4294967296)) (by kernel_rfl) (qt_as (congrArg (Value.int .u64) (u_tmod (by omega))) (qt_pure (v := .int .u64 ((((dC a) + (dC b)) + ((((dB a) + (dB b)) + ((((dA a) + (dA b)) + 0) / 4294967296)) / 4294967296)).tmod 4294967296)) (by kernel_rfl) fun _ => by kernel_rfl)) ?_)
  refine A.goAS [.p, .st 3] [(2, (p_ b1)), (3, (p_ b2)), (4, (p_ b3)), (5, (u_ 0)), (6, (p_ b4)), (7, (u_ ((((dB a) + (dB b)) + ((((dA a) + (dA b)) + 0) / 4294967296)) / 4294967296))), (11, (i_ 2)), (12, (b_ true)), (8, (i_ 2)), (9, (u_ (((dC a) + (dC b)) + ((((dB a) + (dB b)) + ((((dA a) + (dA b)) + 0) / 4294967296)) / 4294967296))))] [blk b1 [(u_ (dA a)), (u_ (dB a)), (u_ (dC a)), (u_ (dD a))] 40, blk b2 [(u_ (dA b)), (u_ (dB b)), (u_ (dC b)), (u_ (dD b))] 40, blk b3 [(u_ 0), (u_ 0), (u_ 0), (u_ 0)] 40, blk b4 [(u_ ((((dA a) + (dA b)) + 0) % 4294967296)), (u_ ((((dB a) + (dB b)) + ((((dA a) + (dA b)) + 0) / 4294967296)) % 4294967296)), (u_ ((((dC a) + (dC b)) + ((((dB a) + (dB b)) + ((((dA a) + (dA b)) + 0) / 4294967296)) / 4294967296)) % 4294967296)), (u_ 0)] 40] [b4] T0 (by kernel_rfl) trivial ?_
  refine A.tn ?_
  refine A.region (A.goA [.p, .w ((((dC a) + (dC b)) + ((((dB a) + (dB b)) + ((((dA a) + (dA b)) + 0) / 4294967296)) / 4294967296)) / 4294967296), .p] [(2, (p_ b1)), (3, (p_ b2)), (4, (p_ b3)), (5, (u_ 0)), (6, (p_ b4)), (7, (u_ ((((dC a) + (dC b)) + ((((dB a) + (dB b)) + ((((dA a) + (dA b)) + 0) / 4294967296)) / 4294967296)) / 4294967296))), (11, (i_ 2)), (12, (b_ true)), (8, (i_ 2)), (9, (u_ (((dC a) + (dC b)) + ((((dB a) + (dB b)) + ((((dA a) + (dA b)) + 0) / 4294967296)) / 4294967296))))] [] (fun κ => (IntKind.u64.wrap ((((dC a) + (dC b)) + ((((dB a) + (dB b)) + ((((dA a) + (dA b)) + 0) / 4294967296)) / 4294967296)).tdiv 4294967296) = (((dC a) + (dC b)) + ((((dB a) + (dB b)) + ((((dA a) + (dA b)) + 0) / 4294967296)) / 4294967296)) / 4294967296) ∧ True) (by kernel_rfl) ⟨(u_tdiv (by omega) (by decide)), trivial⟩ ?_)
  refine A.bn ?_
  refine A.tn ?_
  refine A.region (A.goA [.p, .p] [(2, (p_ b1)), (3, (p_ b2)), (4, (p_ b3)), (5, (u_ 0)), (6, (p_ b4)), (7, (u_ ((((dC a) + (dC b)) + ((((dB a) + (dB b)) + ((((dA a) + (dA b)) + 0) / 4294967296)) / 4294967296)) / 4294967296))), (11, (i_ 3)), (12, (b_ true)), (8, (i_ 2)), (9, (u_ (((dC a) + (dC b)) + ((((dB a) + (dB b)) + ((((dA a) + (dA b)) + 0) / 4294967296)) / 4294967296))))] [] T0 (by kernel_rfl) trivial ?_)
  refine A.tn ?_
  refine A.turnk (m := 396) ?_
  refine A.seq ?_
  refine A.region (A.goA [.p] [(2, (p_ b1)), (3, (p_ b2)), (4, (p_ b3)), (5, (u_ 0)), (6, (p_ b4)), (7, (u_ ((((dC a) + (dC b)) + ((((dB a) + (dB b)) + ((((dA a) + (dA b)) + 0) / 4294967296)) / 4294967296)) / 4294967296))), (11, (i_ 3)), (12, (b_ true)), (8, (i_ 2)), (9, (u_ (((dC a) + (dC b)) + ((((dB a) + (dB b)) + ((((dA a) + (dA b)) + 0) / 4294967296)) / 4294967296))))] [] T0 (by kernel_rfl) trivial ?_)
  refine A.tn ?_
  refine A.seq ?_
  refine A.cond_t rfl ?_
  refine A.skip ?_
  refine A.tn ?_
  refine A.seq ?_
  refine A.block ?_
  refine A.seq ?_
  refine A.region (A.goA [.p, .p] [(2, (p_ b1)), (3, (p_ b2)), (4, (p_ b3)), (5, (u_ 0)), (6, (p_ b4)), (7, (u_ ((((dC a) + (dC b)) + ((((dB a) + (dB b)) + ((((dA a) + (dA b)) + 0) / 4294967296)) / 4294967296)) / 4294967296))), (11, (i_ 3)), (12, (b_ true)), (8, (i_ 3)), (9, (u_ (((dC a) + (dC b)) + ((((dB a) + (dB b)) + ((((dA a) + (dA b)) + 0) / 4294967296)) / 4294967296))))] [] T0 (by kernel_rfl) trivial ?_)
  refine A.tn ?_
  refine A.seq ?_
  refine A.drawA [.p, .p, .ld 0, .p, .p, .ld 1, .w ((dD a) + (dD b)), .p, .w (((dD a) + (dD b)) + ((((dC a) + (dC b)) + ((((dB a) + (dB b)) + ((((dA a) + (dA b)) + 0) / 4294967296)) / 4294967296)) / 4294967296)), .p] [0, 1, 2, 3, 4, 5, 6, 7, 8, 9] [(2, (p_ b1)), (3, (p_ b2)), (4, (p_ b3)), (5, (u_ 0)), (6, (p_ b4)), (7, (u_ ((((dC a) + (dC b)) + ((((dB a) + (dB b)) + ((((dA a) + (dA b)) + 0) / 4294967296)) / 4294967296)) / 4294967296))), (11, (i_ 3)), (12, (b_ true)), (8, (i_ 3)), (9, (u_ (((dD a) + (dD b)) + ((((dC a) + (dC b)) + ((((dB a) + (dB b)) + ((((dA a) + (dA b)) + 0) / 4294967296)) / 4294967296)) / 4294967296))))] [b1, b2] (fun κ => (IntKind.u64.wrap ((dD a) + (dD b)) = ((dD a) + (dD b))) ∧ (IntKind.u64.wrap (((dD a) + (dD b)) + ((((dC a) + (dC b)) + ((((dB a) + (dB b)) + ((((dA a) + (dA b)) + 0) / 4294967296)) / 4294967296)) / 4294967296)) = (((dD a) + (dD b)) + ((((dC a) + (dC b)) + ((((dB a) + (dB b)) + ((((dA a) + (dA b)) + 0) / 4294967296)) / 4294967296)) / 4294967296))) ∧ True) (by kernel_rfl) (by kernel_rfl) ⟨(wrap_u64 (e := (dD a) + (dD b)) (by constructor <;> omega)), (wrap_u64 (e := ((dD a) + (dD b)) + ((((dC a) + (dC b)) + ((((dB a) + (dB b)) + ((((dA a) + (dA b)) + 0) / 4294967296)) / 4294967296)) / 4294967296)) (by constructor <;> omega)), trivial⟩ ?_
  refine A.tn ?_
  refine A.seq ?_
  refine A.region (A.goP [.p, .p] [(2, (p_ b1)), (3, (p_ b2)), (4, (p_ b3)), (5, (u_ 0)), (6, (p_ b4)), (7, (u_ ((((dC a) + (dC b)) + ((((dB a) + (dB b)) + ((((dA a) + (dA b)) + 0) / 4294967296)) / 4294967296)) / 4294967296))), (11, (i_ 3)), (12, (b_ true)), (8, (i_ 3)), (9, (u_ (((dD a) + (dD b)) + ((((dC a) + (dC b)) + ((((dB a) + (dB b)) + ((((dA a) + (dA b)) + 0) / 4294967296)) / 4294967296)) / 4294967296)))), (23, (i_ 3)), (24, (u_ (((dD a) + (dD b)) + ((((dC a) + (dC b)) + ((((dB a) + (dB b)) + ((((dA a) + (dA b)) + 0) / 4294967296)) / 4294967296)) / 4294967296))))] [] T0 (by kernel_rfl) trivial ?_)
  refine A.cons (A.q (some 25) (u_ ((((dD a) + (dD b)) + ((((dC a) + (dC b)) + ((((dB a) + (dB b)) + ((((dA a) + (dA b)) + 0) / 4294967296)) / 4294967296)) / 4294967296)) % 4294967296)) (by kernel_rfl) (qt_as (congrArg (Value.int .u64) (u_tmod (by omega))) (qt_pure (v := .int .u64 ((((dD a) + (dD b)) + ((((dC a) + (dC b)) + ((((dB a) + (dB b)) + ((((dA a) + (dA b)) + 0) / 4294967296)) / 4294967296)) / 4294967296)).tmod 4294967296)) (by kernel_rfl) fun _ => by kernel_rfl)) ?_)
  refine A.goAS [.p, .st 3] [(2, (p_ b1)), (3, (p_ b2)), (4, (p_ b3)), (5, (u_ 0)), (6, (p_ b4)), (7, (u_ ((((dC a) + (dC b)) + ((((dB a) + (dB b)) + ((((dA a) + (dA b)) + 0) / 4294967296)) / 4294967296)) / 4294967296))), (11, (i_ 3)), (12, (b_ true)), (8, (i_ 3)), (9, (u_ (((dD a) + (dD b)) + ((((dC a) + (dC b)) + ((((dB a) + (dB b)) + ((((dA a) + (dA b)) + 0) / 4294967296)) / 4294967296)) / 4294967296))))] [blk b1 [(u_ (dA a)), (u_ (dB a)), (u_ (dC a)), (u_ (dD a))] 40, blk b2 [(u_ (dA b)), (u_ (dB b)), (u_ (dC b)), (u_ (dD b))] 40, blk b3 [(u_ 0), (u_ 0), (u_ 0), (u_ 0)] 40, blk b4 [(u_ ((((dA a) + (dA b)) + 0) % 4294967296)), (u_ ((((dB a) + (dB b)) + ((((dA a) + (dA b)) + 0) / 4294967296)) % 4294967296)), (u_ ((((dC a) + (dC b)) + ((((dB a) + (dB b)) + ((((dA a) + (dA b)) + 0) / 4294967296)) / 4294967296)) % 4294967296)), (u_ ((((dD a) + (dD b)) + ((((dC a) + (dC b)) + ((((dB a) + (dB b)) + ((((dA a) + (dA b)) + 0) / 4294967296)) / 4294967296)) / 4294967296)) % 4294967296))] 40] [b4] T0 (by kernel_rfl) trivial ?_
  refine A.tn ?_
  refine A.region (A.goA [.p, .w ((((dD a) + (dD b)) + ((((dC a) + (dC b)) + ((((dB a) + (dB b)) + ((((dA a) + (dA b)) + 0) / 4294967296)) / 4294967296)) / 4294967296)) / 4294967296), .p] [(2, (p_ b1)), (3, (p_ b2)), (4, (p_ b3)), (5, (u_ 0)), (6, (p_ b4)), (7, (u_ ((((dD a) + (dD b)) + ((((dC a) + (dC b)) + ((((dB a) + (dB b)) + ((((dA a) + (dA b)) + 0) / 4294967296)) / 4294967296)) / 4294967296)) / 4294967296))), (11, (i_ 3)), (12, (b_ true)), (8, (i_ 3)), (9, (u_ (((dD a) + (dD b)) + ((((dC a) + (dC b)) + ((((dB a) + (dB b)) + ((((dA a) + (dA b)) + 0) / 4294967296)) / 4294967296)) / 4294967296))))] [] (fun κ => (IntKind.u64.wrap ((((dD a) + (dD b)) + ((((dC a) + (dC b)) + ((((dB a) + (dB b)) + ((((dA a) + (dA b)) + 0) / 4294967296)) / 4294967296)) / 4294967296)).tdiv 4294967296) = (((dD a) + (dD b)) + ((((dC a) + (dC b)) + ((((dB a) + (dB b)) + ((((dA a) + (dA b)) + 0) / 4294967296)) / 4294967296)) / 4294967296)) / 4294967296) ∧ True) (by kernel_rfl) ⟨(u_tdiv (by omega) (by decide)), trivial⟩ ?_)
  refine A.bn ?_
  refine A.tn ?_
  refine A.region (A.goA [.p, .p] [(2, (p_ b1)), (3, (p_ b2)), (4, (p_ b3)), (5, (u_ 0)), (6, (p_ b4)), (7, (u_ ((((dD a) + (dD b)) + ((((dC a) + (dC b)) + ((((dB a) + (dB b)) + ((((dA a) + (dA b)) + 0) / 4294967296)) / 4294967296)) / 4294967296)) / 4294967296))), (11, (i_ 4)), (12, (b_ true)), (8, (i_ 3)), (9, (u_ (((dD a) + (dD b)) + ((((dC a) + (dC b)) + ((((dB a) + (dB b)) + ((((dA a) + (dA b)) + 0) / 4294967296)) / 4294967296)) / 4294967296))))] [] T0 (by kernel_rfl) trivial ?_)
  refine A.tn ?_
  refine A.turnk (m := 395) ?_
  refine A.seq ?_
  refine A.region (A.goA [.p] [(2, (p_ b1)), (3, (p_ b2)), (4, (p_ b3)), (5, (u_ 0)), (6, (p_ b4)), (7, (u_ ((((dD a) + (dD b)) + ((((dC a) + (dC b)) + ((((dB a) + (dB b)) + ((((dA a) + (dA b)) + 0) / 4294967296)) / 4294967296)) / 4294967296)) / 4294967296))), (11, (i_ 4)), (12, (b_ false)), (8, (i_ 3)), (9, (u_ (((dD a) + (dD b)) + ((((dC a) + (dC b)) + ((((dB a) + (dB b)) + ((((dA a) + (dA b)) + 0) / 4294967296)) / 4294967296)) / 4294967296))))] [] T0 (by kernel_rfl) trivial ?_)
  refine A.tn ?_
  refine A.seq ?_
  refine A.cond_f rfl ?_
  refine A.exit ?_
  refine A.te ?_
  refine A.te ?_
  refine A.bh ?_
  refine A.tn ?_
  refine A.seq ?_
  refine A.region (A.goAS [.ld 3, .p, .st 2, .p] [(2, (p_ b1)), (3, (p_ b2)), (4, (p_ b3)), (5, (u_ ((((dD a) + (dD b)) + ((((dC a) + (dC b)) + ((((dB a) + (dB b)) + ((((dA a) + (dA b)) + 0) / 4294967296)) / 4294967296)) / 4294967296)) / 4294967296))), (6, (p_ b4)), (7, (u_ ((((dD a) + (dD b)) + ((((dC a) + (dC b)) + ((((dB a) + (dB b)) + ((((dA a) + (dA b)) + 0) / 4294967296)) / 4294967296)) / 4294967296)) / 4294967296))), (11, (i_ 4)), (12, (b_ false)), (8, (i_ 3)), (9, (u_ (((dD a) + (dD b)) + ((((dC a) + (dC b)) + ((((dB a) + (dB b)) + ((((dA a) + (dA b)) + 0) / 4294967296)) / 4294967296)) / 4294967296))))] [blk b1 [(u_ (dA a)), (u_ (dB a)), (u_ (dC a)), (u_ (dD a))] 40, blk b2 [(u_ (dA b)), (u_ (dB b)), (u_ (dC b)), (u_ (dD b))] 40, blk b3 [(u_ ((((dA a) + (dA b)) + 0) % 4294967296)), (u_ ((((dB a) + (dB b)) + ((((dA a) + (dA b)) + 0) / 4294967296)) % 4294967296)), (u_ ((((dC a) + (dC b)) + ((((dB a) + (dB b)) + ((((dA a) + (dA b)) + 0) / 4294967296)) / 4294967296)) % 4294967296)), (u_ ((((dD a) + (dD b)) + ((((dC a) + (dC b)) + ((((dB a) + (dB b)) + ((((dA a) + (dA b)) + 0) / 4294967296)) / 4294967296)) / 4294967296)) % 4294967296))] 40, blk b4 [(u_ ((((dA a) + (dA b)) + 0) % 4294967296)), (u_ ((((dB a) + (dB b)) + ((((dA a) + (dA b)) + 0) / 4294967296)) % 4294967296)), (u_ ((((dC a) + (dC b)) + ((((dB a) + (dB b)) + ((((dA a) + (dA b)) + 0) / 4294967296)) / 4294967296)) % 4294967296)), (u_ ((((dD a) + (dD b)) + ((((dC a) + (dC b)) + ((((dB a) + (dB b)) + ((((dA a) + (dA b)) + 0) / 4294967296)) / 4294967296)) / 4294967296)) % 4294967296))] 40] [b4, b3] T0 (by kernel_rfl) trivial ?_)
  refine A.tn ?_
  refine A.ret ?_
  refine A.postQ [(.agg #[(u_ ((((dA a) + (dA b)) + 0) % 4294967296)), (u_ ((((dB a) + (dB b)) + ((((dA a) + (dA b)) + 0) / 4294967296)) % 4294967296)), (u_ ((((dC a) + (dC b)) + ((((dB a) + (dB b)) + ((((dA a) + (dA b)) + 0) / 4294967296)) / 4294967296)) % 4294967296)), (u_ ((((dD a) + (dD b)) + ((((dC a) + (dC b)) + ((((dB a) + (dB b)) + ((((dA a) + (dA b)) + 0) / 4294967296)) / 4294967296)) / 4294967296)) % 4294967296))]), (u_ ((((dD a) + (dD b)) + ((((dC a) + (dC b)) + ((((dB a) + (dB b)) + ((((dA a) + (dA b)) + 0) / 4294967296)) / 4294967296)) / 4294967296)) / 4294967296))] (fun aa ww rr ss => ⟨rv_cellN (vs := [(u_ ((((dA a) + (dA b)) + 0) % 4294967296)), (u_ ((((dB a) + (dB b)) + ((((dA a) + (dA b)) + 0) / 4294967296)) % 4294967296)), (u_ ((((dC a) + (dC b)) + ((((dB a) + (dB b)) + ((((dA a) + (dA b)) + 0) / 4294967296)) / 4294967296)) % 4294967296)), (u_ ((((dD a) + (dD b)) + ((((dC a) + (dC b)) + ((((dB a) + (dB b)) + ((((dA a) + (dA b)) + 0) / 4294967296)) / 4294967296)) / 4294967296)) % 4294967296))]) rr ss rfl (by kernel_rfl) (reads_blk (i := 2) rfl rfl), rv_tmp rr rfl, trivial⟩) ?_
  show ((.tuple #[(.agg #[(u_ ((((dA a) + (dA b)) + 0) % 4294967296)), (u_ ((((dB a) + (dB b)) + ((((dA a) + (dA b)) + 0) / 4294967296)) % 4294967296)), (u_ ((((dC a) + (dC b)) + ((((dB a) + (dB b)) + ((((dA a) + (dA b)) + 0) / 4294967296)) / 4294967296)) % 4294967296)), (u_ ((((dD a) + (dD b)) + ((((dC a) + (dC b)) + ((((dB a) + (dB b)) + ((((dA a) + (dA b)) + 0) / 4294967296)) / 4294967296)) / 4294967296)) % 4294967296))]), (u_ ((((dD a) + (dD b)) + ((((dC a) + (dC b)) + ((((dB a) + (dB b)) + ((((dA a) + (dA b)) + 0) / 4294967296)) / 4294967296)) / 4294967296)) / 4294967296))]) : Value) = (.tuple #[(.agg #[(u_ (dA ((a + b) % 340282366920938463463374607431768211456))), (u_ (dB ((a + b) % 340282366920938463463374607431768211456))), (u_ (dC ((a + b) % 340282366920938463463374607431768211456))), (u_ (dD ((a + b) % 340282366920938463463374607431768211456)))]), (u_ ((a + b) / 340282366920938463463374607431768211456))])
  obtain ⟨q0_, q1_, q2_, q3_⟩ := dg_mk (v := ((a + b) % 340282366920938463463374607431768211456)) (a := (((dA a) + (dA b)) + 0) % 4294967296) (b := (((dB a) + (dB b)) + ((((dA a) + (dA b)) + 0) / 4294967296)) % 4294967296) (c := (((dC a) + (dC b)) + ((((dB a) + (dB b)) + ((((dA a) + (dA b)) + 0) / 4294967296)) / 4294967296)) % 4294967296) (d := (((dD a) + (dD b)) + ((((dC a) + (dC b)) + ((((dB a) + (dB b)) + ((((dA a) + (dA b)) + 0) / 4294967296)) / 4294967296)) / 4294967296)) % 4294967296) (by omega) (by omega) (by omega) (by omega) (by first | omega | (unfold W128 at *; omega) | skip); have q4_ : ((((dD a) + (dD b)) + ((((dC a) + (dC b)) + ((((dB a) + (dB b)) + ((((dA a) + (dA b)) + 0) / 4294967296)) / 4294967296)) / 4294967296)) / 4294967296) = (((a + b) / 340282366920938463463374607431768211456)) := (by unfold W128 at *; omega); rw [← q0_, ← q1_, ← q2_, ← q3_, q4_]

set_option maxHeartbeats 4000000 in
set_option maxRecDepth 100000 in
theorem rPlus_spec (a b : Int) (ha : 0 ≤ a ∧ a < W128) (hb : 0 ≤ b ∧ b < W128) (w : World) :
    Calls Tryd.prog 44 #[(.agg #[(u_ (dA a)), (u_ (dB a)), (u_ (dC a)), (u_ (dD a))]), (.agg #[(u_ (dA b)), (u_ (dB b)), (u_ (dC b)), (u_ (dD b))])] w fun e w' => e = .returned (.agg #[(u_ (dA ((a + b) % 340282366920938463463374607431768211456))), (u_ (dB ((a + b) % 340282366920938463463374607431768211456))), (u_ (dC ((a + b) % 340282366920938463463374607431768211456))), (u_ (dD ((a + b) % 340282366920938463463374607431768211456)))]) ∧ Fr [] w w' := by
  refine calls_of (args := [(.agg #[(u_ (dA a)), (u_ (dB a)), (u_ (dC a)), (u_ (dD a))]), (.agg #[(u_ (dA b)), (u_ (dB b)), (u_ (dC b)), (u_ (dD b))])]) (penv [(.agg #[(u_ (dA a)), (u_ (dB a)), (u_ (dC a)), (u_ (dD a))]), (.agg #[(u_ (dA b)), (u_ (dB b)), (u_ (dC b)), (u_ (dD b))])]) [] [] Tryd.func44 rfl rfl (look_penv _) (HS.nil w) ?_
  refine A.norm [(0, (.agg #[(u_ (dA a)), (u_ (dB a)), (u_ (dC a)), (u_ (dD a))])), (1, (.agg #[(u_ (dA b)), (u_ (dB b)), (u_ (dC b)), (u_ (dD b))]))] [] (by exact ⟨rfl, rfl, trivial⟩) rfl ?_
  refine A.seq ?_
  refine A.region (A.goA3 [.al, .al, .al] [0, 1, 2, 3, 4] (fun b1 b2 b3 => [(0, (.agg #[(u_ (dA a)), (u_ (dB a)), (u_ (dC a)), (u_ (dD a))])), (1, (.agg #[(u_ (dA b)), (u_ (dB b)), (u_ (dC b)), (u_ (dD b))])), (2, (p_ b1)), (3, (p_ b2)), (4, (p_ b3))]) (fun b1 b2 b3 => [blk b1 [(u_ (dA a)), (u_ (dB a)), (u_ (dC a)), (u_ (dD a))] 40, blk b2 [(u_ (dA b)), (u_ (dB b)), (u_ (dC b)), (u_ (dD b))] 40, blk b3 [(u_ 0), (u_ 0), (u_ 0), (u_ 0)] 40]) (fun b1 b2 b3 => []) (fun _ _ _ => T0) (fun _ _ _ => by kernel_rfl) (fun b1 b2 b3 => trivial) ?_)
  intro b1 b2 b3
  refine A.tn ?_
  refine A.seq ?_
  refine A.region (A.goA1 [.ld 0, .ld 1, .cq (.tuple #[(.agg #[(u_ (dA ((a + b) % 340282366920938463463374607431768211456))), (u_ (dB ((a + b) % 340282366920938463463374607431768211456))), (u_ (dC ((a + b) % 340282366920938463463374607431768211456))), (u_ (dD ((a + b) % 340282366920938463463374607431768211456)))]), (u_ ((a + b) / 340282366920938463463374607431768211456))]), .p, .p, .p, .al, .st 3, .p] [0, 1, 2, 3, 4, 5] (fun b4 => [(0, (.agg #[(u_ (dA a)), (u_ (dB a)), (u_ (dC a)), (u_ (dD a))])), (1, (.agg #[(u_ (dA b)), (u_ (dB b)), (u_ (dC b)), (u_ (dD b))])), (2, (p_ b1)), (3, (p_ b2)), (4, (p_ b3)), (5, (p_ b4))]) (fun b4 => [blk b1 [(u_ (dA a)), (u_ (dB a)), (u_ (dC a)), (u_ (dD a))] 40, blk b2 [(u_ (dA b)), (u_ (dB b)), (u_ (dC b)), (u_ (dD b))] 40, blk b3 [(u_ 0), (u_ 0), (u_ 0), (u_ 0)] 40, blk b4 [(u_ (dA ((a + b) % 340282366920938463463374607431768211456))), (u_ (dB ((a + b) % 340282366920938463463374607431768211456))), (u_ (dC ((a + b) % 340282366920938463463374607431768211456))), (u_ (dD ((a + b) % 340282366920938463463374607431768211456)))] 40]) (fun b4 => [b1, b2, b4]) (fun _ => (fun κ => κ.call 61 [(.agg #[(u_ (dA a)), (u_ (dB a)), (u_ (dC a)), (u_ (dD a))]), (.agg #[(u_ (dA b)), (u_ (dB b)), (u_ (dC b)), (u_ (dD b))])] (.tuple #[(.agg #[(u_ (dA ((a + b) % 340282366920938463463374607431768211456))), (u_ (dB ((a + b) % 340282366920938463463374607431768211456))), (u_ (dC ((a + b) % 340282366920938463463374607431768211456))), (u_ (dD ((a + b) % 340282366920938463463374607431768211456)))]), (u_ ((a + b) / 340282366920938463463374607431768211456))]) ∧ True)) (fun _ => by kernel_rfl) (fun b4 => ⟨(fun ww ss => rAdd_spec a b (by first | assumption | omega) (by first | assumption | omega) ww), trivial⟩) ?_)
  intro b4
  refine A.tn ?_
  refine A.seq ?_
  refine A.region (A.goAS [.ld 3, .st 2] [(0, (.agg #[(u_ (dA a)), (u_ (dB a)), (u_ (dC a)), (u_ (dD a))])), (1, (.agg #[(u_ (dA b)), (u_ (dB b)), (u_ (dC b)), (u_ (dD b))])), (2, (p_ b1)), (3, (p_ b2)), (4, (p_ b3)), (5, (p_ b4))] [blk b1 [(u_ (dA a)), (u_ (dB a)), (u_ (dC a)), (u_ (dD a))] 40, blk b2 [(u_ (dA b)), (u_ (dB b)), (u_ (dC b)), (u_ (dD b))] 40, blk b3 [(u_ (dA ((a + b) % 340282366920938463463374607431768211456))), (u_ (dB ((a + b) % 340282366920938463463374607431768211456))), (u_ (dC ((a + b) % 340282366920938463463374607431768211456))), (u_ (dD ((a + b) % 340282366920938463463374607431768211456)))] 40, blk b4 [(u_ (dA ((a + b) % 340282366920938463463374607431768211456))), (u_ (dB ((a + b) % 340282366920938463463374607431768211456))), (u_ (dC ((a + b) % 340282366920938463463374607431768211456))), (u_ (dD ((a + b) % 340282366920938463463374607431768211456)))] 40] [b4, b3] T0 (by kernel_rfl) trivial ?_)
  refine A.tn ?_
  refine A.ret ?_
  refine A.postQ [(.agg #[(u_ (dA ((a + b) % 340282366920938463463374607431768211456))), (u_ (dB ((a + b) % 340282366920938463463374607431768211456))), (u_ (dC ((a + b) % 340282366920938463463374607431768211456))), (u_ (dD ((a + b) % 340282366920938463463374607431768211456)))])] (fun aa ww rr ss => ⟨rv_cellN (vs := [(u_ (dA ((a + b) % 340282366920938463463374607431768211456))), (u_ (dB ((a + b) % 340282366920938463463374607431768211456))), (u_ (dC ((a + b) % 340282366920938463463374607431768211456))), (u_ (dD ((a + b) % 340282366920938463463374607431768211456)))]) rr ss rfl (by kernel_rfl) (reads_blk (i := 2) rfl rfl), trivial⟩) ?_
  rfl

set_option maxHeartbeats 4000000 in
set_option maxRecDepth 100000 in
theorem rMinus_spec (a b : Int) (ha : 0 ≤ a ∧ a < W128) (hb : 0 ≤ b ∧ b < W128) (w : World) :
    Calls Tryd.prog 71 #[(.agg #[(u_ (dA a)), (u_ (dB a)), (u_ (dC a)), (u_ (dD a))]), (.agg #[(u_ (dA b)), (u_ (dB b)), (u_ (dC b)), (u_ (dD b))])] w fun e w' => e = .returned (.agg #[(u_ (dA ((a - b) % 340282366920938463463374607431768211456))), (u_ (dB ((a - b) % 340282366920938463463374607431768211456))), (u_ (dC ((a - b) % 340282366920938463463374607431768211456))), (u_ (dD ((a - b) % 340282366920938463463374607431768211456)))]) ∧ Fr [] w w' := by
  have r1 := dg_rng ha; have r2 := dg_rng hb
  have e1 := dg_eq ha; have e2 := dg_eq hb
  refine calls_of (args := [(.agg #[(u_ (dA a)), (u_ (dB a)), (u_ (dC a)), (u_ (dD a))]), (.agg #[(u_ (dA b)), (u_ (dB b)), (u_ (dC b)), (u_ (dD b))])]) (penv [(.agg #[(u_ (dA a)), (u_ (dB a)), (u_ (dC a)), (u_ (dD a))]), (.agg #[(u_ (dA b)), (u_ (dB b)), (u_ (dC b)), (u_ (dD b))])]) [] [] Tryd.func71 rfl rfl (look_penv _) (HS.nil w) ?_
  refine A.norm [(0, (.agg #[(u_ (dA a)), (u_ (dB a)), (u_ (dC a)), (u_ (dD a))])), (1, (.agg #[(u_ (dA b)), (u_ (dB b)), (u_ (dC b)), (u_ (dD b))]))] [] (by exact ⟨rfl, rfl, trivial⟩) rfl ?_
  refine A.seq ?_
  refine A.region (A.goA3 [.al, .al, .al] [0, 1, 2, 3, 4] (fun b1 b2 b3 => [(0, (.agg #[(u_ (dA a)), (u_ (dB a)), (u_ (dC a)), (u_ (dD a))])), (1, (.agg #[(u_ (dA b)), (u_ (dB b)), (u_ (dC b)), (u_ (dD b))])), (2, (p_ b1)), (3, (p_ b2)), (4, (p_ b3))]) (fun b1 b2 b3 => [blk b1 [(u_ (dA a)), (u_ (dB a)), (u_ (dC a)), (u_ (dD a))] 40, blk b2 [(u_ (dA b)), (u_ (dB b)), (u_ (dC b)), (u_ (dD b))] 40, blk b3 [(u_ 0), (u_ 0), (u_ 0), (u_ 0)] 40]) (fun b1 b2 b3 => []) (fun _ _ _ => T0) (fun _ _ _ => by kernel_rfl) (fun b1 b2 b3 => trivial) ?_)
  intro b1 b2 b3
  refine A.tn ?_
  refine A.seq ?_
  refine A.region (A.goA1 [.p, .al, .st 3] [0, 1, 2, 3, 4, 5] (fun b4 => [(0, (.agg #[(u_ (dA a)), (u_ (dB a)), (u_ (dC a)), (u_ (dD a))])), (1, (.agg #[(u_ (dA b)), (u_ (dB b)), (u_ (dC b)), (u_ (dD b))])), (2, (p_ b1)), (3, (p_ b2)), (4, (p_ b3)), (5, (p_ b4))]) (fun b4 => [blk b1 [(u_ (dA a)), (u_ (dB a)), (u_ (dC a)), (u_ (dD a))] 40, blk b2 [(u_ (dA b)), (u_ (dB b)), (u_ (dC b)), (u_ (dD b))] 40, blk b3 [(u_ 0), (u_ 0), (u_ 0), (u_ 0)] 40, blk b4 [(u_ 0), (u_ 0), (u_ 0), (u_ 0)] 40]) (fun b4 => [b4]) (fun _ => T0) (fun _ => by kernel_rfl) (fun b4 => trivial) ?_)
  intro b4
  refine A.tn ?_
  refine A.seq ?_
  refine A.region (A.goA [.p] [(0, (.agg #[(u_ (dA a)), (u_ (dB a)), (u_ (dC a)), (u_ (dD a))])), (1, (.agg #[(u_ (dA b)), (u_ (dB b)), (u_ (dC b)), (u_ (dD b))])), (2, (p_ b1)), (3, (p_ b2)), (4, (p_ b3)), (5, (p_ b4)), (6, (u_ 0))] [] T0 (by kernel_rfl) trivial ?_)
  refine A.tn ?_
  refine A.seq ?_
  refine A.seq ?_
  refine A.region (A.goA [.p] [(0, (.agg #[(u_ (dA a)), (u_ (dB a)), (u_ (dC a)), (u_ (dD a))])), (1, (.agg #[(u_ (dA b)), (u_ (dB b)), (u_ (dC b)), (u_ (dD b))])), (2, (p_ b1)), (3, (p_ b2)), (4, (p_ b3)), (5, (p_ b4)), (6, (u_ 0)), (10, (i_ 0))] [] T0 (by kernel_rfl) trivial ?_)
  refine A.tn ?_
  refine A.block ?_
  refine A.unroll 400 ?_
  refine A.sub [(2, (p_ b1)), (3, (p_ b2)), (4, (p_ b3)), (5, (p_ b4)), (6, (u_ 0)), (10, (i_ 0))] (by exact ⟨rfl, rfl, rfl, rfl, rfl, rfl, trivial⟩) (A.turnk (m := 399) ?_)
  refine A.seq ?_
  refine A.region (A.goA [.p] [(2, (p_ b1)), (3, (p_ b2)), (4, (p_ b3)), (5, (p_ b4)), (6, (u_ 0)), (10, (i_ 0)), (11, (b_ true))] [] T0 (by kernel_rfl) trivial ?_)
  refine A.tn ?_
  refine A.seq ?_
  refine A.cond_t rfl ?_
  refine A.skip ?_
  refine A.tn ?_
  refine A.seq ?_
  refine A.block ?_
  refine A.seq ?_
  refine A.region (A.goA [.p, .p] [(2, (p_ b1)), (3, (p_ b2)), (4, (p_ b3)), (5, (p_ b4)), (6, (u_ 0)), (10, (i_ 0)), (11, (b_ true)), (7, (i_ 0))] [] T0 (by kernel_rfl) trivial ?_)
  refine A.tn ?_
  refine A.seq ?_
  refine A.drawA [.p, .p, .ld 0, .w ((dA a) + 4294967296), .p, .p, .ld 1, .w (((dA a) + 4294967296) - (dA b)), .p, .w ((((dA a) + 4294967296) - (dA b)) - 0), .p] [0, 1, 2, 3, 4, 5, 6, 7, 8, 9, 10] [(2, (p_ b1)), (3, (p_ b2)), (4, (p_ b3)), (5, (p_ b4)), (6, (u_ 0)), (10, (i_ 0)), (11, (b_ true)), (7, (i_ 0)), (8, (u_ ((((dA a) + 4294967296) - (dA b)) - 0)))] [b1, b2] (fun κ => (IntKind.u64.wrap ((dA a) + 4294967296) = ((dA a) + 4294967296)) ∧ (IntKind.u64.wrap (((dA a) + 4294967296) - (dA b)) = (((dA a) + 4294967296) - (dA b))) ∧ (IntKind.u64.wrap ((((dA a) + 4294967296) - (dA b)) - 0) = ((((dA a) + 4294967296) - (dA b)) - 0)) ∧ True) (by kernel_rfl) (by kernel_rfl) ⟨(wrap_u64 (e := (dA a) + 4294967296) (by constructor <;> omega)), (wrap_u64 (e := ((dA a) + 4294967296) - (dA b)) (by constructor <;> omega)), (wrap_u64 (e := (((dA a) + 4294967296) - (dA b)) - 0) (by constructor <;> omega)), trivial⟩ ?_
  refine A.tn ?_
  refine A.seq ?_
  refine A.region (A.goP [.p, .p] [(2, (p_ b1)), (3, (p_ b2)), (4, (p_ b3)), (5, (p_ b4)), (6, (u_ 0)), (10, (i_ 0)), (11, (b_ true)), (7, (i_ 0)), (8, (u_ ((((dA a) + 4294967296) - (dA b)) - 0))), (23, (i_ 0)), (24, (u_ ((((dA a) + 4294967296) - (dA b)) - 0)))] [] T0 (by kernel_rfl) trivial ?_)
  refine A.cons (A.q (some 25) (u_ (((((dA a) + 4294967296) - (dA b)) - 0) % 4294967296)) (by kernel_rfl) (qt_as (congrArg (Value.int .u64) (u_tmod (by omega))) (qt_pure (v := .int .u64 (((((dA a) + 4294967296) - (dA b)) - 0).tmod 4294967296)) (by kernel_rfl) fun _ => by kernel_rfl)) ?_)
  refine A.goAS [.p, .st 3] [(2, (p_ b1)), (3, (p_ b2)), (4, (p_ b3)), (5, (p_ b4)), (6, (u_ 0)), (10, (i_ 0)), (11, (b_ true)), (7, (i_ 0)), (8, (u_ ((((dA a) + 4294967296) - (dA b)) - 0)))] [blk b1 [(u_ (dA a)), (u_ (dB a)), (u_ (dC a)), (u_ (dD a))] 40, blk b2 [(u_ (dA b)), (u_ (dB b)), (u_ (dC b)), (u_ (dD b))] 40, blk b3 [(u_ 0), (u_ 0), (u_ 0), (u_ 0)] 40, blk b4 [(u_ (((((dA a) + 4294967296) - (dA b)) - 0) % 4294967296)), (u_ 0), (u_ 0), (u_ 0)] 40] [b4] T0 (by kernel_rfl) trivial ?_
  refine A.tn ?_
  refine A.region (A.goA [.p, .w (((((dA a) + 4294967296) - (dA b)) - 0) / 4294967296), .w (1 - (((((dA a) + 4294967296) - (dA b)) - 0) / 4294967296)), .p] [(2, (p_ b1)), (3, (p_ b2)), (4, (p_ b3)), (5, (p_ b4)), (6, (u_ (1 - (((((dA a) + 4294967296) - (dA b)) - 0) / 4294967296)))), (10, (i_ 0)), (11, (b_ true)), (7, (i_ 0)), (8, (u_ ((((dA a) + 4294967296) - (dA b)) - 0)))] [] (fun κ => (IntKind.u64.wrap (((((dA a) + 4294967296) - (dA b)) - 0).tdiv 4294967296) = ((((dA a) + 4294967296) - (dA b)) - 0) / 4294967296) ∧ (IntKind.u64.wrap (1 - (((((dA a) + 4294967296) - (dA b)) - 0) / 4294967296)) = (1 - (((((dA a) + 4294967296) - (dA b)) - 0) / 4294967296))) ∧ True) (by kernel_rfl) ⟨(u_tdiv (by omega) (by decide)), (wrap_u64 (e := 1 - (((((dA a) + 4294967296) - (dA b)) - 0) / 4294967296)) (by constructor <;> omega)), trivial⟩ ?_)
  refine A.bn ?_
  refine A.tn ?_
  refine A.region (A.goA [.p, .p] [(2, (p_ b1)), (3, (p_ b2)), (4, (p_ b3)), (5, (p_ b4)), (6, (u_ (1 - (((((dA a) + 4294967296) - (dA b)) - 0) / 4294967296)))), (10, (i_ 1)), (11, (b_ true)), (7, (i_ 0)), (8, (u_ ((((dA a) + 4294967296) - (dA b)) - 0)))] [] T0 (by kernel_rfl) trivial ?_)
  refine A.tn ?_
  refine A.turnk (m := 398) ?_
  refine A.seq ?_
  refine A.region (A.goA [.p] [(2, (p_ b1)), (3, (p_ b2)), (4, (p_ b3)), (5, (p_ b4)), (6, (u_ (1 - (((((dA a) + 4294967296) - (dA b)) - 0) / 4294967296)))), (10, (i_ 1)), (11, (b_ true)), (7, (i_ 0)), (8, (u_ ((((dA a) + 4294967296) - (dA b)) - 0)))] [] T0 (by kernel_rfl) trivial ?_)
  refine A.tn ?_
  refine A.seq ?_
  refine A.cond_t rfl ?_
  refine A.skip ?_
  refine A.tn ?_
  refine A.seq ?_
  refine A.block ?_
  refine A.seq ?_
  refine A.region (A.goA [.p, .p] [(2, (p_ b1)), (3, (p_ b2)), (4, (p_ b3)), (5, (p_ b4)), (6, (u_ (1 - (((((dA a) + 4294967296) - (dA b)) - 0) / 4294967296)))), (10, (i_ 1)), (11, (b_ true)), (7, (i_ 1)), (8, (u_ ((((dA a) + 4294967296) - (dA b)) - 0)))] [] T0 (by kernel_rfl) trivial ?_)
  refine A.tn ?_
  refine A.seq ?_
  refine A.drawA [.p, .p, .ld 0, .w ((dB a) + 4294967296), .p, .p, .ld 1, .w (((dB a) + 4294967296) - (dB b)), .p, .w ((((dB a) + 4294967296) - (dB b)) - (1 - (((((dA a) + 4294967296) - (dA b)) - 0) / 4294967296))), .p] [0, 1, 2, 3, 4, 5, 6, 7, 8, 9, 10] [(2, (p_ b1)), (3, (p_ b2)), (4, (p_ b3)), (5, (p_ b4)), (6, (u_ (1 - (((((dA a) + 4294967296) - (dA b)) - 0) / 4294967296)))), (10, (i_ 1)), (11, (b_ true)), (7, (i_ 1)), (8, (u_ ((((dB a) + 4294967296) - (dB b)) - (1 - (((((dA a) + 4294967296) - (dA b)) - 0) / 4294967296)))))] [b1, b2] (fun κ => (IntKind.u64.wrap ((dB a) + 4294967296) = ((dB a) + 4294967296)) ∧ (IntKind.u64.wrap (((dB a) + 4294967296) - (dB b)) = (((dB a) + 4294967296) - (dB b))) ∧ (IntKind.u64.wrap ((((dB a) + 4294967296) - (dB b)) - (1 - (((((dA a) + 4294967296) - (dA b)) - 0) / 4294967296))) = ((((dB a) + 4294967296) - (dB b)) - (1 - (((((dA a) + 4294967296) - (dA b)) - 0) / 4294967296)))) ∧ True) (by kernel_rfl) (by kernel_rfl) ⟨(wrap_u64 (e := (dB a) + 4294967296) (by constructor <;> omega)), (wrap_u64 (e := ((dB a) + 4294967296) - (dB b)) (by constructor <;> omega)), (wrap_u64 (e := (((dB a) + 4294967296) - (dB b)) - (1 - (((((dA a) + 4294967296) - (dA b)) - 0) / 4294967296))) (by constructor <;> omega)), trivial⟩ ?_
  refine A.tn ?_
  refine A.seq ?_
  refine A.region (A.goP [.p, .p] [(2, (p_ b1)), (3, (p_ b2)), (4, (p_ b3)), (5, (p_ b4)), (6, (u_ (1 - (((((dA a) + 4294967296) - (dA b)) - 0) / 4294967296)))), (10, (i_ 1)), (11, (b_ true)), (7, (i_ 1)), (8, (u_ ((((dB a) + 4294967296) - (dB b)) - (1 - (((((dA a) + 4294967296) - (dA b)) - 0) / 4294967296))))), (23, (i_ 1)), (24, (u_ ((((dB a) + 4294967296) - (dB b)) - (1 - (((((dA a) + 4294967296) - (dA b)) - 0) / 4294967296)))))] [] T0 (by kernel_rfl) trivial ?_)
  refine A.cons (A.q (some 25) (u_ (((((dB a) + 4294967296) - (dB b)) - (1 - (((((dA a) + 4294967296) - (dA b)) - 0) / 4294967296))) % 4294967296)) (by kernel_rfl) (qt_as (congrArg (Value.int .u64) (u_tmod (by omega))) (qt_pure (v := .int .u64 (((((dB a) + 4294967296) - (dB b)) - (1 - (((((dA a) + 4294967296) - (dA b)) - 0) / 4294967296))).tmod 4294967296)) (by kernel_rfl) fun _ => by kernel_rfl)) ?_)
  refine A.goAS [.p, .st 3] [(2, (p_ b1)), (3, (p_ b2)), (4, (p_ b3)), (5, (p_ b4)), (6, (u_ (1 - (((((dA a) + 4294967296) - (dA b)) - 0) / 4294967296)))), (10, (i_ 1)), (11, (b_ true)), (7, (i_ 1)), (8, (u_ ((((dB a) + 4294967296) - (dB b)) - (1 - (((((dA a) + 4294967296) - (dA b)) - 0) / 4294967296)))))] [blk b1 [(u_ (dA a)), (u_ (dB a)), (u_ (dC a)), (u_ (dD a))] 40, blk b2 [(u_ (dA b)), (u_ (dB b)), (u_ (dC b)), (u_ (dD b))] 40, blk b3 [(u_ 0), (u_ 0), (u_ 0), (u_ 0)] 40, blk b4 [(u_ (((((dA a) + 4294967296) - (dA b)) - 0) % 4294967296)), (u_ (((((dB a) + 4294967296) - (dB b)) - (1 - (((((dA a) + 4294967296) - (dA b)) - 0) / 4294967296))) % 4294967296)), (u_ 0), (u_ 0)] 40] [b4] T0 (by kernel_rfl) trivial ?_
  refine A.tn ?_
  refine A.region (A.goA [.p, .w (((((dB a) + 4294967296) - (dB b)) - (1 - (((((dA a) + 4294967296) - (dA b)) - 0) / 4294967296))) / 4294967296), .w (1 - (((((dB a) + 4294967296) - (dB b)) - (1 - (((((dA a) + 4294967296) - (dA b)) - 0) / 4294967296))) / 4294967296)), .p] [(2, (p_ b1)), (3, (p_ b2)), (4, (p_ b3)), (5, (p_ b4)), (6, (u_ (1 - (((((dB a) + 4294967296) - (dB b)) - (1 - (((((dA a) + 4294967296) - (dA b)) - 0) / 4294967296))) / 4294967296)))), (10, (i_ 1)), (11, (b_ true)), (7, (i_ 1)), (8, (u_ ((((dB a) + 4294967296) - (dB b)) - (1 - (((((dA a) + 4294967296) - (dA b)) - 0) / 4294967296)))))] [] (fun κ => (IntKind.u64.wrap (((((dB a) + 4294967296) - (dB b)) - (1 - (((((dA a) + 4294967296) - (dA b)) - 0) / 4294967296))).tdiv 4294967296) = ((((dB a) + 4294967296) - (dB b)) - (1 - (((((dA a) + 4294967296) - (dA b)) - 0) / 4294967296))) / 4294967296) ∧ (IntKind.u64.wrap (1 - (((((dB a) + 4294967296) - (dB b)) - (1 - (((((dA a) + 4294967296) - (dA b)) - 0) / 4294967296))) / 4294967296)) = (1 - (((((dB a) + 4294967296) - (dB b)) - (1 - (((((dA a) + 4294967296) - (dA b)) - 0) / 4294967296))) / 4294967296))) ∧ True) (by kernel_rfl) ⟨(u_tdiv (by omega) (by decide)), (wrap_u64 (e := 1 - (((((dB a) + 4294967296) - (dB b)) - (1 - (((((dA a) + 4294967296) - (dA b)) - 0) / 4294967296))) / 4294967296)) (by constructor <;> omega)), trivial⟩ ?_)
  refine A.bn ?_
  refine A.tn ?_
  refine A.region (A.goA [.p, .p] [(2, (p_ b1)), (3, (p_ b2)), (4, (p_ b3)), (5, (p_ b4)), (6, (u_ (1 - (((((dB a) + 4294967296) - (dB b)) - (1 - (((((dA a) + 4294967296) - (dA b)) - 0) / 4294967296))) / 4294967296)))), (10, (i_ 2)), (11, (b_ true)), (7, (i_ 1)), (8, (u_ ((((dB a) + 4294967296) - (dB b)) - (1 - (((((dA a) + 4294967296) - (dA b)) - 0) / 4294967296)))))] [] T0 (by kernel_rfl) trivial ?_)
  refine A.tn ?_
  refine A.turnk (m := 397) ?_
  refine A.seq ?_
  refine A.region (A.goA [.p] [(2, (p_ b1)), (3, (p_ b2)), (4, (p_ b3)), (5, (p_ b4)), (6, (u_ (1 - (((((dB a) + 4294967296) - (dB b)) - (1 - (((((dA a) + 4294967296) - (dA b)) - 0) / 4294967296))) / 4294967296)))), (10, (i_ 2)), (11, (b_ true)), (7, (i_ 1)), (8, (u_ ((((dB a) + 4294967296) - (dB b)) - (1 - (((((dA a) + 4294967296) - (dA b)) - 0) / 4294967296)))))] [] T0 (by kernel_rfl) trivial ?_)
  refine A.tn ?_
  refine A.seq ?_
  refine A.cond_t rfl ?_
  refine A.skip ?_
  refine A.tn ?_
  refine A.seq ?_
  refine A.block ?_
  refine A.seq ?_
  refine A.region (A.goA [.p, .p] [(2, (p_ b1)), (3, (p_ b2)), (4, (p_ b3)), (5, (p_ b4)), (6, (u_ (1 - (((((dB a) + 4294967296) - (dB b)) - (1 - (((((dA a) + 4294967296) - (dA b)) - 0) / 4294967296))) / 4294967296)))), (10, (i_ 2)), (11, (b_ true)), (7, (i_ 2)), (8, (u_ ((((dB a) + 4294967296) - (dB b)) - (1 - (((((dA a) + 4294967296) - (dA b)) - 0) / 4294967296)))))] [] T0 (by kernel_rfl) trivial ?_)
  refine A.tn ?_
  refine A.seq ?_
  refine A.drawA [.p, .p, .ld 0, .w ((dC a) + 4294967296), .p, .p, .ld 1, .w (((dC a) + 4294967296) - (dC b)), .p, .w ((((dC a) + 4294967296) - (dC b)) - (1 - (((((dB a) + 4294967296) - (dB b)) - (1 - (((((dA a) + 4294967296) - (dA b)) - 0) / 4294967296))) / 4294967296))), .p] [0, 1, 2, 3, 4, 5, 6, 7, 8, 9, 10] [(2, (p_ b1)), (3, (p_ b2)), (4, (p_ b3)), (5, (p_ b4)), (6, (u_ (1 - (((((dB a) + 4294967296) - (dB b)) - (1 - (((((dA a) + 4294967296) - (dA b)) - 0) / 4294967296))) / 4294967296)))), (10, (i_ 2)), (11, (b_ true)), (7, (i_ 2)), (8, (u_ ((((dC a) + 4294967296) - (dC b)) - (1 - (((((dB a) + 4294967296) - (dB b)) - (1 - (((((dA a) + 4294967296) - (dA b)) - 0) / 4294967296))) / 4294967296)))))] [b1, b2] (fun κ => (IntKind.u64.wrap ((dC a) + 4294967296) = ((dC a) + 4294967296)) ∧ (IntKind.u64.wrap (((dC a) + 4294967296) - (dC b)) = (((dC a) + 4294967296) - (dC b))) ∧ (IntKind.u64.wrap ((((dC a) + 4294967296) - (dC b)) - (1 - (((((dB a) + 4294967296) - (dB b)) - (1 - (((((dA a) + 4294967296) - (dA b)) - 0) / 4294967296))) / 4294967296))) = ((((dC a) + 4294967296) - (dC b)) - (1 - (((((dB a) + 4294967296) - (dB b)) - (1 - (((((dA a) + 4294967296) - (dA b)) - 0) / 4294967296))) / 4294967296)))) ∧ True) (by kernel_rfl) (by kernel_rfl) ⟨(wrap_u64 (e := (dC a) + 4294967296) (by constructor <;> omega)), (wrap_u64 (e := ((dC a) + 4294967296) - (dC b)) (by constructor <;> omega)), (wrap_u64 (e := (((dC a) + 4294967296) - (dC b)) - (1 - (((((dB a) + 4294967296) - (dB b)) - (1 - (((((dA a) + 4294967296) - (dA b)) - 0) / 4294967296))) / 4294967296))) (by constructor <;> omega)), trivial⟩ ?_
  refine A.tn ?_
  refine A.seq ?_
  refine A.region (A.goP [.p, .p] [(2, (p_ b1)), (3, (p_ b2)), (4, (p_ b3)), (5, (p_ b4)), (6, (u_ (1 - (((((dB a) + 4294967296) - (dB b)) - (1 - (((((dA a) + 4294967296) - (dA b)) - 0) / 4294967296))) / 4294967296)))), (10, (i_ 2)), (11, (b_ true)), (7, (i_ 2)), (8, (u_ ((((dC a) + 4294967296) - (dC b)) - (1 - (((((dB a) + 4294967296) - (dB b)) - (1 - (((((dA a) + 4294967296) - (dA b)) - 0) / 4294967296))) / 4294967296))))), (23, (i_ 2)), (24, (u_ ((((dC a) + 4294967296) - (dC b)) - (1 - (((((dB a) + 4294967296) - (dB b)) - (1 - (((((dA a) + 4294967296) - (dA b)) - 0) / 4294967296))) / 4294967296)))))] [] T0 (by kernel_rfl) trivial ?_)
  refine A.cons (A.q (some 25) (u_ (((((dC a) + 4294967296) - (dC b)) - (1 - (((((dB a) + 4294967296) - (dB b)) - (1 - (((((dA a) + 4294967296) - (dA b)) - 0) / 4294967296))) / 4294967296))) % 4294967296)) (by kernel_rfl) (qt_as (congrArg (Value.int .u64) (u_tmod (by omega))) (qt_pure (v := .int .u64 (((((dC a) + 4294967296) - (dC b)) - (1 - (((((dB a) + 4294967296) - (dB b)) - (1 - (((((dA a) + 4294967296) - (dA b)) - 0) / 4294967296))) / 4294967296))).tmod 4294967296)) (by kernel_rfl) fun _ => by kernel_rfl)) ?_)
  refine A.goAS [.p, .st 3] [(2, (p_ b1)), (3, (p_ b2)), (4, (p_ b3)), (5, (p_ b4)), (6, (u_ (1 - (((((dB a) + 4294967296) - (dB b)) - (1 - (((((dA a) + 4294967296) - (dA b)) - 0) / 4294967296))) / 4294967296)))), (10, (i_ 2)), (11, (b_ true)), (7, (i_ 2)), (8, (u_ ((((dC a) + 4294967296) - (dC b)) - (1 - (((((dB a) + 4294967296) - (dB b)) - (1 - (((((dA a) + 4294967296) - (dA b)) - 0) / 4294967296))) / 4294967296)))))] [blk b1 [(u_ (dA a)), (u_ (dB a)), (u_ (dC a)), (u_ (dD a))] 40, blk b2 [(u_ (dA b)), (u_ (dB b)), (u_ (dC b)), (u_ (dD b))] 40, blk b3 [(u_ 0), (u_ 0), (u_ 0), (u_ 0)] 40, blk b4 [(u_ (((((dA a) + 4294967296) - (dA b)) - 0) % 4294967296)), (u_ (((((dB a) + 4294967296) - (dB b)) - (1 - (((((dA a) + 4294967296) - (dA b)) - 0) / 4294967296))) % 4294967296)), (u_ (((((dC a) + 4294967296) - (dC b)) - (1 - (((((dB a) + 4294967296) - (dB b)) - (1 - (((((dA a) + 4294967296) - (dA b)) - 0) / 4294967296))) / 4294967296))) % 4294967296)), (u_ 0)] 40] [b4] T0 (by kernel_rfl) trivial ?_
  refine A.tn ?_
  refine A.region (A.goA [.p, .w (((((dC a) + 4294967296) - (dC b)) - (1 - (((((dB a) + 4294967296) - (dB b)) - (1 - (((((dA a) + 4294967296) - (dA b)) - 0) / 4294967296))) / 4294967296))) / 4294967296), .w (1 - (((((dC a) + 4294967296) - (dC b)) - (1 - (((((dB a) + 4294967296) - (dB b)) - (1 - (((((dA a) + 4294967296) - (dA b)) - 0) / 4294967296))) / 4294967296))) / 4294967296)), .p] [(2, (p_ b1)), (3, (p_ b2)), (4, (p_ b3)), (5, (p_ b4)), (6, (u_ (1 - (((((dC a) + 4294967296) - (dC b)) - (1 - (((((dB a) + 4294967296) - (dB b)) - (1 - (((((dA a) + 4294967296) - (dA b)) - 0) / 4294967296))) / 4294967296))) / 4294967296)))), (10, (i_ 2)), (11, (b_ true)), (7, (i_ 2)), (8, (u_ ((((dC a) + 4294967296) - (dC b)) - (1 - (((((dB a) + 4294967296) - (dB b)) - (1 - (((((dA a) + 4294967296) - (dA b)) - 0) / 4294967296))) / 4294967296)))))] [] (fun κ => (IntKind.u64.wrap (((((dC a) + 4294967296) - (dC b)) - (1 - (((((dB a) + 4294967296) - (dB b)) - (1 - (((((dA a) + 4294967296) - (dA b)) - 0) / 4294967296))) / 4294967296))).tdiv 4294967296) = ((((dC a) + 4294967296) - (dC b)) - (1 - (((((dB a) + 4294967296) - (dB b)) - (1 - (((((dA a) + 4294967296) - (dA b)) - 0) / 4294967296))) / 4294967296))) / 4294967296) ∧ (IntKind.u64.wrap (1 - (((((dC a) + 4294967296) - (dC b)) - (1 - (((((dB a) + 4294967296) - (dB b)) - (1 - (((((dA a) + 4294967296) - (dA b)) - 0) / 4294967296))) / 4294967296))) / 4294967296)) = (1 - (((((dC a) + 4294967296) - (dC b)) - (1 - (((((dB a) + 4294967296) - (dB b)) - (1 - (((((dA a) + 4294967296) - (dA b)) - 0) / 4294967296))) / 4294967296))) / 4294967296))) ∧ True) (by kernel_rfl) ⟨(u_tdiv (by omega) (by decide)), (wrap_u64 (e := 1 - (((((dC a) + 4294967296) - (dC b)) - (1 - (((((dB a) + 4294967296) - (dB b)) - (1 - (((((dA a) + 4294967296) - (dA b)) - 0) / 4294967296))) / 4294967296))) / 4294967296)) (by constructor <;> omega)), trivial⟩ ?_)
  refine A.bn ?_
  refine A.tn ?_
  refine A.region (A.goA [.p, .p] [(2, (p_ b1)), (3, (p_ b2)), (4, (p_ b3)), (5, (p_ b4)), (6, (u_ (1 - (((((dC a) + 4294967296) - (dC b)) - (1 - (((((dB a) + 4294967296) - (dB b)) - (1 - (((((dA a) + 4294967296) - (dA b)) - 0) / 4294967296))) / 4294967296))) / 4294967296)))), (10, (i_ 3)), (11, (b_ true)), (7, (i_ 2)), (8, (u_ ((((dC a) + 4294967296) - (dC b)) - (1 - (((((dB a) + 4294967296) - (dB b)) - (1 - (((((dA a) + 4294967296) - (dA b)) - 0) / 4294967296))) / 4294967296)))))] [] T0 (by kernel_rfl) trivial ?_)
  refine A.tn ?_
  refine A.turnk (m := 396) ?_
  refine A.seq ?_
  refine A.region (A.goA [.p] [(2, (p_ b1)), (3, (p_ b2)), (4, (p_ b3)), (5, (p_ b4)), (6, (u_ (1 - (((((dC a) + 4294967296) - (dC b)) - (1 - (((((dB a) + 4294967296) - (dB b)) - (1 - (((((dA a) + 4294967296) - (dA b)) - 0) / 4294967296))) / 4294967296))) / 4294967296)))), (10, (i_ 3)), (11, (b_ true)), (7, (i_ 2)), (8, (u_ ((((dC a) + 4294967296) - (dC b)) - (1 - (((((dB a) + 4294967296) - (dB b)) - (1 - (((((dA a) + 4294967296) - (dA b)) - 0) / 4294967296))) / 4294967296)))))] [] T0 (by kernel_rfl) trivial ?_)
  refine A.tn ?_
  refine A.seq ?_
  refine A.cond_t rfl ?_
  refine A.skip ?_
  refine A.tn ?_
  refine A.seq ?_
  refine A.block ?_
  refine A.seq ?_
  refine A.region (A.goA [.p, .p] [(2, (p_ b1)), (3, (p_ b2)), (4, (p_ b3)), (5, (p_ b4)), (6, (u_ (1 - (((((dC a) + 4294967296) - (dC b)) - (1 - (((((dB a) + 4294967296) - (dB b)) - (1 - (((((dA a) + 4294967296) - (dA b)) - 0) / 4294967296))) / 4294967296))) / 4294967296)))), (10, (i_ 3)), (11, (b_ true)), (7, (i_ 3)), (8, (u_ ((((dC a) + 4294967296) - (dC b)) - (1 - (((((dB a) + 4294967296) - (dB b)) - (1 - (((((dA a) + 4294967296) - (dA b)) - 0) / 4294967296))) / 4294967296)))))] [] T0 (by kernel_rfl) trivial ?_)
  refine A.tn ?_
  refine A.seq ?_
  refine A.drawA [.p, .p, .ld 0, .w ((dD a) + 4294967296), .p, .p, .ld 1, .w (((dD a) + 4294967296) - (dD b)), .p, .w ((((dD a) + 4294967296) - (dD b)) - (1 - (((((dC a) + 4294967296) - (dC b)) - (1 - (((((dB a) + 4294967296) - (dB b)) - (1 - (((((dA a) + 4294967296) - (dA b)) - 0) / 4294967296))) / 4294967296))) / 4294967296))), .p] [0, 1, 2, 3, 4, 5, 6, 7, 8, 9, 10] [(2, (p_ b1)), (3, (p_ b2)), (4, (p_ b3)), (5, (p_ b4)), (6, (u_ (1 - (((((dC a) + 4294967296) - (dC b)) - (1 - (((((dB a) + 4294967296) - (dB b)) - (1 - (((((dA a) + 4294967296) - (dA b)) - 0) / 4294967296))) / 4294967296))) / 4294967296)))), (10, (i_ 3)), (11, (b_ true)), (7, (i_ 3)), (8, (u_ ((((dD a) + 4294967296) - (dD b)) - (1 - (((((dC a) + 4294967296) - (dC b)) - (1 - (((((dB a) + 4294967296) - (dB b)) - (1 - (((((dA a) + 4294967296) - (dA b)) - 0) / 4294967296))) / 4294967296))) / 4294967296)))))] [b1, b2] (fun κ => (IntKind.u64.wrap ((dD a) + 4294967296) = ((dD a) + 4294967296)) ∧ (IntKind.u64.wrap (((dD a) + 4294967296) - (dD b)) = (((dD a) + 4294967296) - (dD b))) ∧ (IntKind.u64.wrap ((((dD a) + 4294967296) - (dD b)) - (1 - (((((dC a) + 4294967296) - (dC b)) - (1 - (((((dB a) + 4294967296) - (dB b)) - (1 - (((((dA a) + 4294967296) - (dA b)) - 0) / 4294967296))) / 4294967296))) / 4294967296))) = ((((dD a) + 4294967296) - (dD b)) - (1 - (((((dC a) + 4294967296) - (dC b)) - (1 - (((((dB a) + 4294967296) - (dB b)) - (1 - (((((dA a) + 4294967296) - (dA b)) - 0) / 4294967296))) / 4294967296))) / 4294967296)))) ∧ True) (by kernel_rfl) (by kernel_rfl) ⟨(wrap_u64 (e := (dD a) + 4294967296) (by constructor <;> omega)), (wrap_u64 (e := ((dD a) + 4294967296) - (dD b)) (by constructor <;> omega)), (wrap_u64 (e := (((dD a) + 4294967296) - (dD b)) - (1 - (((((dC a) + 4294967296) - (dC b)) - (1 - (((((dB a) + 4294967296) - (dB b)) - (1 - (((((dA a) + 4294967296) - (dA b)) - 0) / 4294967296))) / 4294967296))) / 4294967296))) (by constructor <;> omega)), trivial⟩ ?_
  refine A.tn ?_
  refine A.seq ?_
  refine A.region (A.goP [.p, .p] [(2, (p_ b1)), (3, (p_ b2)), (4, (p_ b3)), (5, (p_ b4)), (6, (u_ (1 - (((((dC a) + 4294967296) - (dC b)) - (1 - (((((dB a) + 4294967296) - (dB b)) - (1 - (((((dA a) + 4294967296) - (dA b)) - 0) / 4294967296))) / 4294967296))) / 4294967296)))), (10, (i_ 3)), (11, (b_ true)), (7, (i_ 3)), (8, (u_ ((((dD a) + 4294967296) - (dD b)) - (1 - (((((dC a) + 4294967296) - (dC b)) - (1 - (((((dB a) + 4294967296) - (dB b)) - (1 - (((((dA a) + 4294967296) - (dA b)) - 0) / 4294967296))) / 4294967296))) / 4294967296))))), (23, (i_ 3)), (24, (u_ ((((dD a) + 4294967296) - (dD b)) - (1 - (((((dC a) + 4294967296) - (dC b)) - (1 - (((((dB a) + 4294967296) - (dB b)) - (1 - (((((dA a) + 4294967296) - (dA b)) - 0) / 4294967296))) / 4294967296))) / 4294967296)))))] [] T0 (by kernel_rfl) trivial ?_)
  refine A.cons (A.q (some 25) (u_ (((((dD a) + 4294967296) - (dD b)) - (1 - (((((dC a) + 4294967296) - (dC b)) - (1 - (((((dB a) + 4294967296) - (dB b)) - (1 - (((((dA a) + 4294967296) - (dA b)) - 0) / 4294967296))) / 4294967296))) / 4294967296))) % 4294967296)) (by kernel_rfl) (qt_as (congrArg (Value.int .u64) (u_tmod (by omega))) (qt_pure (v := .int .u64 (((((dD a) + 4294967296) - (dD b)) - (1 - (((((dC a) + 4294967296) - (dC b)) - (1 - (((((dB a) + 4294967296) - (dB b)) - (1 - (((((dA a) + 4294967296) - (dA b)) - 0) / 4294967296))) / 4294967296))) / 4294967296))).tmod 4294967296)) (by kernel_rfl) fun _ => by kernel_rfl)) ?_)
  refine A.goAS [.p, .st 3] [(2, (p_ b1)), (3, (p_ b2)), (4, (p_ b3)), (5, (p_ b4)), (6, (u_ (1 - (((((dC a) + 4294967296) - (dC b)) - (1 - (((((dB a) + 4294967296) - (dB b)) - (1 - (((((dA a) + 4294967296) - (dA b)) - 0) / 4294967296))) / 4294967296))) / 4294967296)))), (10, (i_ 3)), (11, (b_ true)), (7, (i_ 3)), (8, (u_ ((((dD a) + 4294967296) - (dD b)) - (1 - (((((dC a) + 4294967296) - (dC b)) - (1 - (((((dB a) + 4294967296) - (dB b)) - (1 - (((((dA a) + 4294967296) - (dA b)) - 0) / 4294967296))) / 4294967296))) / 4294967296)))))] [blk b1 [(u_ (dA a)), (u_ (dB a)), (u_ (dC a)), (u_ (dD a))] 40, blk b2 [(u_ (dA b)), (u_ (dB b)), (u_ (dC b)), (u_ (dD b))] 40, blk b3 [(u_ 0), (u_ 0), (u_ 0), (u_ 0)] 40, blk b4 [(u_ (((((dA a) + 4294967296) - (dA b)) - 0) % 4294967296)), (u_ (((((dB a) + 4294967296) - (dB b)) - (1 - (((((dA a) + 4294967296) - (dA b)) - 0) / 4294967296))) % 4294967296)), (u_ (((((dC a) + 4294967296) - (dC b)) - (1 - (((((dB a) + 4294967296) - (dB b)) - (1 - (((((dA a) + 4294967296) - (dA b)) - 0) / 4294967296))) / 4294967296))) % 4294967296)), (u_ (((((dD a) + 4294967296) - (dD b)) - (1 - (((((dC a) + 4294967296) - (dC b)) - (1 - (((((dB a) + 4294967296) - (dB b)) - (1 - (((((dA a) + 4294967296) - (dA b)) - 0) / 4294967296))) / 4294967296))) / 4294967296))) % 4294967296))] 40] [b4] T0 (by kernel_rfl) trivial ?_
  refine A.tn ?_
  refine A.region (A.goA [.p, .w (((((dD a) + 4294967296) - (dD b)) - (1 - (((((dC a) + 4294967296) - (dC b)) - (1 - (((((dB a) + 4294967296) - (dB b)) - (1 - (((((dA a) + 4294967296) - (dA b)) - 0) / 4294967296))) / 4294967296))) / 4294967296))) / 4294967296), .w (1 - (((((dD a) + 4294967296) - (dD b)) - (1 - (((((dC a) + 4294967296) - (dC b)) - (1 - (((((dB a) + 4294967296) - (dB b)) - (1 - (((((dA a) + 4294967296) - (dA b)) - 0) / 4294967296))) / 4294967296))) / 4294967296))) / 4294967296)), .p] [(2, (p_ b1)), (3, (p_ b2)), (4, (p_ b3)), (5, (p_ b4)), (6, (u_ (1 - (((((dD a) + 4294967296) - (dD b)) - (1 - (((((dC a) + 4294967296) - (dC b)) - (1 - (((((dB a) + 4294967296) - (dB b)) - (1 - (((((dA a) + 4294967296) - (dA b)) - 0) / 4294967296))) / 4294967296))) / 4294967296))) / 4294967296)))), (10, (i_ 3)), (11, (b_ true)), (7, (i_ 3)), (8, (u_ ((((dD a) + 4294967296) - (dD b)) - (1 - (((((dC a) + 4294967296) - (dC b)) - (1 - (((((dB a) + 4294967296) - (dB b)) - (1 - (((((dA a) + 4294967296) - (dA b)) - 0) / 4294967296))) / 4294967296))) / 4294967296)))))] [] (fun κ => (IntKind.u64.wrap (((((dD a) + 4294967296) - (dD b)) - (1 - (((((dC a) + 4294967296) - (dC b)) - (1 - (((((dB a) + 4294967296) - (dB b)) - (1 - (((((dA a) + 4294967296) - (dA b)) - 0) / 4294967296))) / 4294967296))) / 4294967296))).tdiv 4294967296) = ((((dD a) + 4294967296) - (dD b)) - (1 - (((((dC a) + 4294967296) - (dC b)) - (1 - (((((dB a) + 4294967296) - (dB b)) - (1 - (((((dA a) + 4294967296) - (dA b)) - 0) / 4294967296))) / 4294967296))) / 4294967296))) / 4294967296) ∧ (IntKind.u64.wrap (1 - (((((dD a) + 4294967296) - (dD b)) - (1 - (((((dC a) + 4294967296) - (dC b)) - (1 - (((((dB a) + 4294967296) - (dB b)) - (1 - (((((dA a) + 4294967296) - (dA b)) - 0) / 4294967296))) / 4294967296))) / 4294967296))) / 4294967296)) = (1 - (((((dD a) + 4294967296) - (dD b)) - (1 - (((((dC a) + 4294967296) - (dC b)) - (1 - (((((dB a) + 4294967296) - (dB b)) - (1 - (((((dA a) + 4294967296) - (dA b)) - 0) / 4294967296))) / 4294967296))) / 4294967296))) / 4294967296))) ∧ True) (by kernel_rfl) ⟨(u_tdiv (by omega) (by decide)), (wrap_u64 (e := 1 - (((((dD a) + 4294967296) - (dD b)) - (1 - (((((dC a) + 4294967296) - (dC b)) - (1 - (((((dB a) + 4294967296) - (dB b)) - (1 - (((((dA a) + 4294967296) - (dA b)) - 0) / 4294967296))) / 4294967296))) / 4294967296))) / 4294967296)) (by constructor <;> omega)), trivial⟩ ?_)
  refine A.bn ?_
  refine A.tn ?_
  refine A.region (A.goA [.p, .p] [(2, (p_ b1)), (3, (p_ b2)), (4, (p_ b3)), (5, (p_ b4)), (6, (u_ (1 - (((((dD a) + 4294967296) - (dD b)) - (1 - (((((dC a) + 4294967296) - (dC b)) - (1 - (((((dB a) + 4294967296) - (dB b)) - (1 - (((((dA a) + 4294967296) - (dA b)) - 0) / 4294967296))) / 4294967296))) / 4294967296))) / 4294967296)))), (10, (i_ 4)), (11, (b_ true)), (7, (i_ 3)), (8, (u_ ((((dD a) + 4294967296) - (dD b)) - (1 - (((((dC a) + 4294967296) - (dC b)) - (1 - (((((dB a) + 4294967296) - (dB b)) - (1 - (((((dA a) + 4294967296) - (dA b)) - 0) / 4294967296))) / 4294967296))) / 4294967296)))))] [] T0 (by kernel_rfl) trivial ?_)
  refine A.tn ?_
  refine A.turnk (m := 395) ?_
  refine A.seq ?_
  refine A.region (A.goA [.p] [(2, (p_ b1)), (3, (p_ b2)), (4, (p_ b3)), (5, (p_ b4)), (6, (u_ (1 - (((((dD a) + 4294967296) - (dD b)) - (1 - (((((dC a) + 4294967296) - (dC b)) - (1 - (((((dB a) + 4294967296) - (dB b)) - (1 - (((((dA a) + 4294967296) - (dA b)) - 0) / 4294967296))) / 4294967296))) / 4294967296))) / 4294967296)))), (10, (i_ 4)), (11, (b_ false)), (7, (i_ 3)), (8, (u_ ((((dD a) + 4294967296) - (dD b)) - (1 - (((((dC a) + 4294967296) - (dC b)) - (1 - (((((dB a) + 4294967296) - (dB b)) - (1 - (((((dA a) + 4294967296) - (dA b)) - 0) / 4294967296))) / 4294967296))) / 4294967296)))))] [] T0 (by kernel_rfl) trivial ?_)
  refine A.tn ?_
  refine A.seq ?_
  refine A.cond_f rfl ?_
  refine A.exit ?_
  refine A.te ?_
  refine A.te ?_
  refine A.bh ?_
  refine A.tn ?_
  refine A.seq ?_
  refine A.region (A.goAS [.ld 3, .st 2] [(2, (p_ b1)), (3, (p_ b2)), (4, (p_ b3)), (5, (p_ b4)), (6, (u_ (1 - (((((dD a) + 4294967296) - (dD b)) - (1 - (((((dC a) + 4294967296) - (dC b)) - (1 - (((((dB a) + 4294967296) - (dB b)) - (1 - (((((dA a) + 4294967296) - (dA b)) - 0) / 4294967296))) / 4294967296))) / 4294967296))) / 4294967296)))), (10, (i_ 4)), (11, (b_ false)), (7, (i_ 3)), (8, (u_ ((((dD a) + 4294967296) - (dD b)) - (1 - (((((dC a) + 4294967296) - (dC b)) - (1 - (((((dB a) + 4294967296) - (dB b)) - (1 - (((((dA a) + 4294967296) - (dA b)) - 0) / 4294967296))) / 4294967296))) / 4294967296)))))] [blk b1 [(u_ (dA a)), (u_ (dB a)), (u_ (dC a)), (u_ (dD a))] 40, blk b2 [(u_ (dA b)), (u_ (dB b)), (u_ (dC b)), (u_ (dD b))] 40, blk b3 [(u_ (((((dA a) + 4294967296) - (dA b)) - 0) % 4294967296)), (u_ (((((dB a) + 4294967296) - (dB b)) - (1 - (((((dA a) + 4294967296) - (dA b)) - 0) / 4294967296))) % 4294967296)), (u_ (((((dC a) + 4294967296) - (dC b)) - (1 - (((((dB a) + 4294967296) - (dB b)) - (1 - (((((dA a) + 4294967296) - (dA b)) - 0) / 4294967296))) / 4294967296))) % 4294967296)), (u_ (((((dD a) + 4294967296) - (dD b)) - (1 - (((((dC a) + 4294967296) - (dC b)) - (1 - (((((dB a) + 4294967296) - (dB b)) - (1 - (((((dA a) + 4294967296) - (dA b)) - 0) / 4294967296))) / 4294967296))) / 4294967296))) % 4294967296))] 40, blk b4 [(u_ (((((dA a) + 4294967296) - (dA b)) - 0) % 4294967296)), (u_ (((((dB a) + 4294967296) - (dB b)) - (1 - (((((dA a) + 4294967296) - (dA b)) - 0) / 4294967296))) % 4294967296)), (u_ (((((dC a) + 4294967296) - (dC b)) - (1 - (((((dB a) + 4294967296) - (dB b)) - (1 - (((((dA a) + 4294967296) - (dA b)) - 0) / 4294967296))) / 4294967296))) % 4294967296)), (u_ (((((dD a) + 4294967296) - (dD b)) - (1 - (((((dC a) + 4294967296) - (dC b)) - (1 - (((((dB a) + 4294967296) - (dB b)) - (1 - (((((dA a) + 4294967296) - (dA b)) - 0) / 4294967296))) / 4294967296))) / 4294967296))) % 4294967296))] 40] [b4, b3] T0 (by kernel_rfl) trivial ?_)
  refine A.tn ?_
  refine A.ret ?_
  refine A.postQ [(.agg #[(u_ (((((dA a) + 4294967296) - (dA b)) - 0) % 4294967296)), (u_ (((((dB a) + 4294967296) - (dB b)) - (1 - (((((dA a) + 4294967296) - (dA b)) - 0) / 4294967296))) % 4294967296)), (u_ (((((dC a) + 4294967296) - (dC b)) - (1 - (((((dB a) + 4294967296) - (dB b)) - (1 - (((((dA a) + 4294967296) - (dA b)) - 0) / 4294967296))) / 4294967296))) % 4294967296)), (u_ (((((dD a) + 4294967296) - (dD b)) - (1 - (((((dC a) + 4294967296) - (dC b)) - (1 - (((((dB a) + 4294967296) - (dB b)) - (1 - (((((dA a) + 4294967296) - (dA b)) - 0) / 4294967296))) / 4294967296))) / 4294967296))) % 4294967296))])] (fun aa ww rr ss => ⟨rv_cellN (vs := [(u_ (((((dA a) + 4294967296) - (dA b)) - 0) % 4294967296)), (u_ (((((dB a) + 4294967296) - (dB b)) - (1 - (((((dA a) + 4294967296) - (dA b)) - 0) / 4294967296))) % 4294967296)), (u_ (((((dC a) + 4294967296) - (dC b)) - (1 - (((((dB a) + 4294967296) - (dB b)) - (1 - (((((dA a) + 4294967296) - (dA b)) - 0) / 4294967296))) / 4294967296))) % 4294967296)), (u_ (((((dD a) + 4294967296) - (dD b)) - (1 - (((((dC a) + 4294967296) - (dC b)) - (1 - (((((dB a) + 4294967296) - (dB b)) - (1 - (((((dA a) + 4294967296) - (dA b)) - 0) / 4294967296))) / 4294967296))) / 4294967296))) % 4294967296))]) rr ss rfl (by kernel_rfl) (reads_blk (i := 2) rfl rfl), trivial⟩) ?_
  show ((.agg #[(u_ (((((dA a) + 4294967296) - (dA b)) - 0) % 4294967296)), (u_ (((((dB a) + 4294967296) - (dB b)) - (1 - (((((dA a) + 4294967296) - (dA b)) - 0) / 4294967296))) % 4294967296)), (u_ (((((dC a) + 4294967296) - (dC b)) - (1 - (((((dB a) + 4294967296) - (dB b)) - (1 - (((((dA a) + 4294967296) - (dA b)) - 0) / 4294967296))) / 4294967296))) % 4294967296)), (u_ (((((dD a) + 4294967296) - (dD b)) - (1 - (((((dC a) + 4294967296) - (dC b)) - (1 - (((((dB a) + 4294967296) - (dB b)) - (1 - (((((dA a) + 4294967296) - (dA b)) - 0) / 4294967296))) / 4294967296))) / 4294967296))) % 4294967296))]) : Value) = (.agg #[(u_ (dA ((a - b) % 340282366920938463463374607431768211456))), (u_ (dB ((a - b) % 340282366920938463463374607431768211456))), (u_ (dC ((a - b) % 340282366920938463463374607431768211456))), (u_ (dD ((a - b) % 340282366920938463463374607431768211456)))])
  obtain ⟨q0_, q1_, q2_, q3_⟩ := dg_mk (v := ((a - b) % 340282366920938463463374607431768211456)) (a := ((((dA a) + 4294967296) - (dA b)) - 0) % 4294967296) (b := ((((dB a) + 4294967296) - (dB b)) - (1 - (((((dA a) + 4294967296) - (dA b)) - 0) / 4294967296))) % 4294967296) (c := ((((dC a) + 4294967296) - (dC b)) - (1 - (((((dB a) + 4294967296) - (dB b)) - (1 - (((((dA a) + 4294967296) - (dA b)) - 0) / 4294967296))) / 4294967296))) % 4294967296) (d := ((((dD a) + 4294967296) - (dD b)) - (1 - (((((dC a) + 4294967296) - (dC b)) - (1 - (((((dB a) + 4294967296) - (dB b)) - (1 - (((((dA a) + 4294967296) - (dA b)) - 0) / 4294967296))) / 4294967296))) / 4294967296))) % 4294967296) (by omega) (by omega) (by omega) (by omega) (by first | omega | (unfold W128 at *; omega) | skip); rw [← q0_, ← q1_, ← q2_, ← q3_]
end Go.Proofs.YtbmllohfpgngeaaDoor
