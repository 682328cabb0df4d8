/- What the functions of this layer do, proved operation by operation, for all arguments, under the conditions that each theorem states. -/
import Derived.Test.YtinnnoimmioaiaaProg
import Derived.Test.YtinnnoimmioaiaaWide1
import Derived.Test.YtinnnoimmioaiaaL2
namespace Go.Proofs.Ytinnnoimmioaiaa
open Go V
set_option linter.unusedVariables false
set_option linter.unusedSimpArgs false
set_option maxHeartbeats 4000000
set_option maxRecDepth 100000
/-- a number's digits of the base 2^32 -/
def dA (v : Int) : Int := v % 4294967296
def dB (v : Int) : Int := v / 4294967296 % 4294967296
def dC (v : Int) : Int := v / 18446744073709551616 % 4294967296
def dD (v : Int) : Int := v / 79228162514264337593543950336
theorem u_tdiv {x b : Int} (h : 0 ≤ x ∧ x < 18446744073709551616) (hb : 0 < b) : IntKind.u64.wrap (x.tdiv b) = x / b := by
  rw [Int.tdiv_eq_ediv_of_nonneg h.1, IntKind.wrap_u64]
  have h1 := Int.ediv_nonneg h.1 (Int.le_of_lt hb)
  have h2 := Int.ediv_le_self b h.1
  omega
theorem u_tmod {x b : Int} (h : 0 ≤ x) : x.tmod b = x % b := Int.tmod_eq_emod_of_nonneg h
theorem dg_rng {v : Int} (h : 0 ≤ v ∧ v < W128) : (0 ≤ dA v ∧ dA v < 4294967296) ∧ (0 ≤ dB v ∧ dB v < 4294967296) ∧ (0 ≤ dC v ∧ dC v < 4294967296) ∧ 0 ≤ dD v ∧ dD v < 4294967296 := by
  unfold dA dB dC dD; unfold W128 at h; omega
theorem dg_eq {v : Int} (h : 0 ≤ v ∧ v < W128) : v = dA v + dB v * 4294967296 + dC v * 18446744073709551616 + dD v * 79228162514264337593543950336 := by
  unfold dA dB dC dD; unfold W128 at h; omega
theorem dg_mk {v a b c d : Int} (ha : 0 ≤ a ∧ a < 4294967296) (hb : 0 ≤ b ∧ b < 4294967296) (hc : 0 ≤ c ∧ c < 4294967296) (hd : 0 ≤ d ∧ d < 4294967296) (h : v = a + b * 4294967296 + c * 18446744073709551616 + d * 79228162514264337593543950336) : a = dA v ∧ b = dB v ∧ c = dC v ∧ d = dD v := by
  unfold dA dB dC dD; subst h; omega
theorem dg_less {a b : Int} (ha : 0 ≤ a ∧ a < W128) (hb : 0 ≤ b ∧ b < W128) : (a < b) ↔ (dD a < dD b ∨ dD a = dD b ∧ (dC a < dC b ∨ dC a = dC b ∧ (dB a < dB b ∨ dB a = dB b ∧ dA a < dA b))) := by
  have e1 := dg_eq ha; have e2 := dg_eq hb
  have r1 := dg_rng ha; have r2 := dg_rng hb
  omega

theorem rOf_spec (v : Int) (hv : 0 ≤ v ∧ v < 18446744073709551616) (w : World) :
    Calls Try.prog 98 #[(u_ v)] w fun e w' => e = .returned (.agg #[(u_ (dA v)), (u_ (dB v)), (u_ (dC v)), (u_ (dD v))]) ∧ Fr [] w w' := by
  refine calls_of (args := [(u_ v)]) (penv [(u_ v)]) [] [] Try.func98 rfl rfl (look_penv _) (HS.nil w) ?_
  refine A.seq ?_
  refine A.region (A.n1 [.al] [] (fun b1 => [(2, (p_ b1))]) (fun b1 => blk b1 [(u_ 0), (u_ 0), (u_ 0), (u_ 0)] 36) ?_)
  intro b1
  refine A.tn ?_
  refine A.seq ?_
  refine A.region (A.gp [.p] [] [(3, (u_ v))] ?_)
  refine A.cons (A.q (some 4) (u_ (v % 4294967296)) (by kernel_rfl) (qt_as (congrArg (Value.int .u64) (u_tmod (by omega))) (qt_pure (v := .int .u64 (v.tmod 4294967296)) (by kernel_rfl) fun _ => by kernel_rfl)) ?_)
  refine A.gsk [.p, .w (v / 4294967296), .p, .st 0] [0, 3, 4] [] [(0, blk b1 [(u_ (v % 4294967296)), (u_ (v / 4294967296)), (u_ 0), (u_ 0)] 36)] [b1] (fun κ => (IntKind.u64.wrap (v.tdiv 4294967296) = v / 4294967296) ∧ True) ⟨(u_tdiv (by omega) (by decide)), trivial⟩ ?_
  refine A.tn ?_
  refine A.ret ?_
  refine A.postQ [(.agg #[(u_ (v % 4294967296)), (u_ (v / 4294967296)), (u_ 0), (u_ 0)])] (fun aa ww rr ss => ⟨rv_cellN (vs := [(u_ (v % 4294967296)), (u_ (v / 4294967296)), (u_ 0), (u_ 0)]) rr ss rfl (by kernel_rfl) (reads_blk (i := 0) rfl rfl), trivial⟩) ?_
  show ((.agg #[(u_ (v % 4294967296)), (u_ (v / 4294967296)), (u_ 0), (u_ 0)]) : Value) = (.agg #[(u_ (dA v)), (u_ (dB v)), (u_ (dC v)), (u_ (dD v))])
  unfold dA dB dC dD; rw [show v / 4294967296 % 4294967296 = v / 4294967296 by omega, show v / 18446744073709551616 % 4294967296 = 0 by omega, show v / 79228162514264337593543950336 = 0 by omega]

theorem rTwo_spec (h l : Int) (hh : 0 ≤ h ∧ h < 18446744073709551616) (hl : 0 ≤ l ∧ l < 18446744073709551616) (w : World) :
    Calls Try.prog 101 #[(u_ h), (u_ l)] w fun e w' => e = .returned (.agg #[(u_ (dA (h * 18446744073709551616 + l))), (u_ (dB (h * 18446744073709551616 + l))), (u_ (dC (h * 18446744073709551616 + l))), (u_ (dD (h * 18446744073709551616 + l)))]) ∧ Fr [] w w' := by
  refine calls_of (args := [(u_ h), (u_ l)]) (penv [(u_ h), (u_ l)]) [] [] Try.func101 rfl rfl (look_penv _) (HS.nil w) ?_
  refine A.seq ?_
  refine A.region (A.n1 [.al] [] (fun b1 => [(4, (p_ b1))]) (fun b1 => blk b1 [(u_ 0), (u_ 0), (u_ 0), (u_ 0)] 36) ?_)
  intro b1
  refine A.tn ?_
  refine A.seq ?_
  refine A.region (A.gp [.p] [] [(5, (u_ l))] ?_)
  refine A.cons (A.q (some 6) (u_ (l % 4294967296)) (by kernel_rfl) (qt_as (congrArg (Value.int .u64) (u_tmod (by omega))) (qt_pure (v := .int .u64 (l.tmod 4294967296)) (by kernel_rfl) fun _ => by kernel_rfl)) ?_)
  refine A.gpk [.p, .w (l / 4294967296), .p] [1, 5] [(8, (u_ (l / 4294967296))), (9, (u_ h))] [] (fun κ => (IntKind.u64.wrap (l.tdiv 4294967296) = l / 4294967296) ∧ True) ⟨(u_tdiv (by omega) (by decide)), trivial⟩ ?_
  refine A.cons (A.q (some 10) (u_ (h % 4294967296)) (by kernel_rfl) (qt_as (congrArg (Value.int .u64) (u_tmod (by omega))) (qt_pure (v := .int .u64 (h.tmod 4294967296)) (by kernel_rfl) fun _ => by kernel_rfl)) ?_)
  refine A.gsk [.p, .w (h / 4294967296), .p, .st 0] [0, 6, 8, 9, 10] [] [(0, blk b1 [(u_ (l % 4294967296)), (u_ (l / 4294967296)), (u_ (h % 4294967296)), (u_ (h / 4294967296))] 36)] [b1] (fun κ => (IntKind.u64.wrap (h.tdiv 4294967296) = h / 4294967296) ∧ True) ⟨(u_tdiv (by omega) (by decide)), trivial⟩ ?_
  refine A.tn ?_
  refine A.ret ?_
  refine A.postQ [(.agg #[(u_ (l % 4294967296)), (u_ (l / 4294967296)), (u_ (h % 4294967296)), (u_ (h / 4294967296))])] (fun aa ww rr ss => ⟨rv_cellN (vs := [(u_ (l % 4294967296)), (u_ (l / 4294967296)), (u_ (h % 4294967296)), (u_ (h / 4294967296))]) rr ss rfl (by kernel_rfl) (reads_blk (i := 0) rfl rfl), trivial⟩) ?_
  show ((.agg #[(u_ (l % 4294967296)), (u_ (l / 4294967296)), (u_ (h % 4294967296)), (u_ (h / 4294967296))]) : Value) = (.agg #[(u_ (dA (h * 18446744073709551616 + l))), (u_ (dB (h * 18446744073709551616 + l))), (u_ (dC (h * 18446744073709551616 + l))), (u_ (dD (h * 18446744073709551616 + l)))])
  obtain ⟨q0_, q1_, q2_, q3_⟩ := dg_mk (v := (h * 18446744073709551616 + l)) (a := l % 4294967296) (b := l / 4294967296) (c := h % 4294967296) (d := h / 4294967296) (by omega) (by omega) (by omega) (by omega) (by omega); rw [← q0_, ← q1_, ← q2_, ← q3_]

theorem rHi_spec (a : Int) (ha : 0 ≤ a ∧ a < W128) (w : World) :
    Calls Try.prog 100 #[(.agg #[(u_ (dA a)), (u_ (dB a)), (u_ (dC a)), (u_ (dD a))])] w fun e w' => e = .returned (u_ (nH a)) ∧ Fr [] w w' := by
  have e1 := dg_eq ha; have r1 := dg_rng ha
  refine calls_of (args := [(.agg #[(u_ (dA a)), (u_ (dB a)), (u_ (dC a)), (u_ (dD a))])]) (penv [(.agg #[(u_ (dA a)), (u_ (dB a)), (u_ (dC a)), (u_ (dD a))])]) [] [] Try.func100 rfl rfl (look_penv _) (HS.nil w) ?_
  refine A.seq ?_
  refine A.region (A.n1 [.al, .p] [0] (fun b1 => [(1, (p_ b1))]) (fun b1 => blk b1 [(u_ (dA a)), (u_ (dB a)), (u_ (dC a)), (u_ (dD a))] 36) ?_)
  intro b1
  refine A.tn ?_
  refine A.seq ?_
  refine A.region (A.gk [.p, .ld 0, .w ((dD a) * 4294967296), .p, .ld 0, .w (((dD a) * 4294967296) + (dC a)), .p] [1] [(2, (u_ (((dD a) * 4294967296) + (dC a))))] [b1, b1] (fun κ => (IntKind.u64.wrap ((dD a) * 4294967296) = ((dD a) * 4294967296)) ∧ (IntKind.u64.wrap (((dD a) * 4294967296) + (dC a)) = (((dD a) * 4294967296) + (dC a))) ∧ True) ⟨(wrap_u64 (e := (dD a) * 4294967296) (by constructor <;> omega)), (wrap_u64 (e := ((dD a) * 4294967296) + (dC a)) (by constructor <;> omega)), trivial⟩ ?_)
  refine A.tn ?_
  refine A.ret ?_
  refine A.pQ [(u_ (((dD a) * 4294967296) + (dC a)))] ?_
  show ((u_ (((dD a) * 4294967296) + (dC a))) : Value) = (u_ (nH a))
  refine congrArg (Value.int .u64) ?_; unfold nH; unfold W128 at *; omega

theorem rLo_spec (a : Int) (ha : 0 ≤ a ∧ a < W128) (w : World) :
    Calls Try.prog 99 #[(.agg #[(u_ (dA a)), (u_ (dB a)), (u_ (dC a)), (u_ (dD a))])] w fun e w' => e = .returned (u_ (nL a)) ∧ Fr [] w w' := by
  have e1 := dg_eq ha; have r1 := dg_rng ha
  refine calls_of (args := [(.agg #[(u_ (dA a)), (u_ (dB a)), (u_ (dC a)), (u_ (dD a))])]) (penv [(.agg #[(u_ (dA a)), (u_ (dB a)), (u_ (dC a)), (u_ (dD a))])]) [] [] Try.func99 rfl rfl (look_penv _) (HS.nil w) ?_
  refine A.seq ?_
  refine A.region (A.n1 [.al, .p] [0] (fun b1 => [(1, (p_ b1))]) (fun b1 => blk b1 [(u_ (dA a)), (u_ (dB a)), (u_ (dC a)), (u_ (dD a))] 36) ?_)
  intro b1
  refine A.tn ?_
  refine A.seq ?_
  refine A.region (A.gk [.p, .ld 0, .w ((dB a) * 4294967296), .p, .ld 0, .w (((dB a) * 4294967296) + (dA a)), .p] [1] [(2, (u_ (((dB a) * 4294967296) + (dA a))))] [b1, b1] (fun κ => (IntKind.u64.wrap ((dB a) * 4294967296) = ((dB a) * 4294967296)) ∧ (IntKind.u64.wrap (((dB a) * 4294967296) + (dA a)) = (((dB a) * 4294967296) + (dA a))) ∧ True) ⟨(wrap_u64 (e := (dB a) * 4294967296) (by constructor <;> omega)), (wrap_u64 (e := ((dB a) * 4294967296) + (dA a)) (by constructor <;> omega)), trivial⟩ ?_)
  refine A.tn ?_
  refine A.ret ?_
  refine A.pQ [(u_ (((dB a) * 4294967296) + (dA a)))] ?_
  show ((u_ (((dB a) * 4294967296) + (dA a))) : Value) = (u_ (nL a))
  refine congrArg (Value.int .u64) ?_; unfold nL; unfold W128 at *; omega

theorem rLess_spec (a b : Int) (ha : 0 ≤ a ∧ a < W128) (hb : 0 ≤ b ∧ b < W128) (w : World) :
    Calls Try.prog 50 #[(.agg #[(u_ (dA a)), (u_ (dB a)), (u_ (dC a)), (u_ (dD a))]), (.agg #[(u_ (dA b)), (u_ (dB b)), (u_ (dC b)), (u_ (dD b))])] w fun e w' => e = .returned (b_ (decide (a < b))) ∧ Fr [] w w' := by
  have r1 := dg_rng ha; have r2 := dg_rng hb
  have hl := dg_less ha hb
  refine calls_of (args := [(.agg #[(u_ (dA a)), (u_ (dB a)), (u_ (dC a)), (u_ (dD a))]), (.agg #[(u_ (dA b)), (u_ (dB b)), (u_ (dC b)), (u_ (dD b))])]) (penv [(.agg #[(u_ (dA a)), (u_ (dB a)), (u_ (dC a)), (u_ (dD a))]), (.agg #[(u_ (dA b)), (u_ (dB b)), (u_ (dC b)), (u_ (dD b))])]) [] [] Try.func50 rfl rfl (look_penv _) (HS.nil w) ?_
  refine A.seq ?_
  refine A.region (A.n2 [.al, .al, .p] [0, 1] (fun b1 b2 => [(2, (p_ b1)), (3, (p_ b2))]) (fun b1 b2 => [blk b1 [(u_ (dA a)), (u_ (dB a)), (u_ (dC a)), (u_ (dD a))] 36, blk b2 [(u_ (dA b)), (u_ (dB b)), (u_ (dC b)), (u_ (dD b))] 36]) ?_)
  intro b1 b2
  refine A.tn ?_
  refine A.seq ?_
  refine A.seq ?_
  refine A.region (A.g [.p] [] [(6, (i_ 0))] ?_)
  refine A.tn ?_
  refine A.block ?_
  refine A.unroll 400 ?_
  refine A.turnk (m := 399) ?_
  refine A.seq ?_
  refine A.region (A.g [.p] [] [(7, (b_ true))] ?_)
  refine A.tn ?_
  refine A.seq ?_
  refine A.ct ?_
  refine A.skip ?_
  refine A.tn ?_
  refine A.seq ?_
  refine A.block ?_
  refine A.seq ?_
  refine A.region (A.g [.p, .p] [7] [(5, (i_ 0))] ?_)
  refine A.tn ?_
  refine A.seq ?_
  refine A.dA [.p, .p, .p, .ld 0, .p, .p, .p, .ld 1, .p] [0, 1, 2, 3, 4, 5, 6, 7, 8] [] [(17, (b_ ((dD a) != (dD b))))] [b1, b2] T0 trivial ?_
  refine A.tn ?_
  refine A.cn ((dD a) != (dD b)) (fun e1 => ?_) (fun e1 => ?_)
  · have p1 := e1; try simp only [nrm] at p1
    refine A.seq ?_
    refine A.dA [.p, .p, .p, .ld 0, .p, .p, .p, .ld 1, .p, .p] [0, 1, 2, 3, 4, 5, 6, 7, 8, 9] [2, 3, 6, 5, 17] [(4, (b_ (decide ((dD a) < (dD b)))))] [b1, b2] T0 trivial ?_
    refine A.tn ?_
    refine A.ret ?_
    refine A.br ?_
    refine A.tr ?_
    refine A.tr ?_
    refine A.br ?_
    refine A.tr ?_
    refine A.pQ [(b_ (decide ((dD a) < (dD b))))] ?_
    show ((b_ (decide ((dD a) < (dD b)))) : Value) = (b_ (decide (a < b)))
    refine congrArg Value.bool ?_; rw [Bool.eq_iff_iff]; simp only [decide_eq_true_eq, Bool.false_eq_true, hl]; simp_all; done
  have p1 := e1; try simp only [nrm] at p1
  refine A.skip ?_
  refine A.bn ?_
  refine A.tn ?_
  refine A.region (A.g [.p, .p] [5, 17] [(6, (i_ 1))] ?_)
  refine A.tn ?_
  refine A.turnk (m := 398) ?_
  refine A.seq ?_
  refine A.region (A.g [.p] [] [(7, (b_ true))] ?_)
  refine A.tn ?_
  refine A.seq ?_
  refine A.ct ?_
  refine A.skip ?_
  refine A.tn ?_
  refine A.seq ?_
  refine A.block ?_
  refine A.seq ?_
  refine A.region (A.g [.p, .p] [7] [(5, (i_ 1))] ?_)
  refine A.tn ?_
  refine A.seq ?_
  refine A.dA [.p, .p, .p, .ld 0, .p, .p, .p, .ld 1, .p] [0, 1, 2, 3, 4, 5, 6, 7, 8] [] [(17, (b_ ((dC a) != (dC b))))] [b1, b2] T0 trivial ?_
  refine A.tn ?_
  refine A.cn ((dC a) != (dC b)) (fun e2 => ?_) (fun e2 => ?_)
  · have p2 := e2; try simp only [nrm] at p2
    refine A.seq ?_
    refine A.dA [.p, .p, .p, .ld 0, .p, .p, .p, .ld 1, .p, .p] [0, 1, 2, 3, 4, 5, 6, 7, 8, 9] [2, 3, 6, 5, 17] [(4, (b_ (decide ((dC a) < (dC b)))))] [b1, b2] T0 trivial ?_
    refine A.tn ?_
    refine A.ret ?_
    refine A.br ?_
    refine A.tr ?_
    refine A.tr ?_
    refine A.br ?_
    refine A.tr ?_
    refine A.pQ [(b_ (decide ((dC a) < (dC b))))] ?_
    show ((b_ (decide ((dC a) < (dC b)))) : Value) = (b_ (decide (a < b)))
    refine congrArg Value.bool ?_; rw [Bool.eq_iff_iff]; simp only [decide_eq_true_eq, Bool.false_eq_true, hl]; simp_all; done
  have p2 := e2; try simp only [nrm] at p2
  refine A.skip ?_
  refine A.bn ?_
  refine A.tn ?_
  refine A.region (A.g [.p, .p] [5, 17] [(6, (i_ 2))] ?_)
  refine A.tn ?_
  refine A.turnk (m := 397) ?_
  refine A.seq ?_
  refine A.region (A.g [.p] [] [(7, (b_ true))] ?_)
  refine A.tn ?_
  refine A.seq ?_
  refine A.ct ?_
  refine A.skip ?_
  refine A.tn ?_
  refine A.seq ?_
  refine A.block ?_
  refine A.seq ?_
  refine A.region (A.g [.p, .p] [7] [(5, (i_ 2))] ?_)
  refine A.tn ?_
  refine A.seq ?_
  refine A.dA [.p, .p, .p, .ld 0, .p, .p, .p, .ld 1, .p] [0, 1, 2, 3, 4, 5, 6, 7, 8] [] [(17, (b_ ((dB a) != (dB b))))] [b1, b2] T0 trivial ?_
  refine A.tn ?_
  refine A.cn ((dB a) != (dB b)) (fun e3 => ?_) (fun e3 => ?_)
  · have p3 := e3; try simp only [nrm] at p3
    refine A.seq ?_
    refine A.dA [.p, .p, .p, .ld 0, .p, .p, .p, .ld 1, .p, .p] [0, 1, 2, 3, 4, 5, 6, 7, 8, 9] [2, 3, 6, 5, 17] [(4, (b_ (decide ((dB a) < (dB b)))))] [b1, b2] T0 trivial ?_
    refine A.tn ?_
    refine A.ret ?_
    refine A.br ?_
    refine A.tr ?_
    refine A.tr ?_
    refine A.br ?_
    refine A.tr ?_
    refine A.pQ [(b_ (decide ((dB a) < (dB b))))] ?_
    show ((b_ (decide ((dB a) < (dB b)))) : Value) = (b_ (decide (a < b)))
    refine congrArg Value.bool ?_; rw [Bool.eq_iff_iff]; simp only [decide_eq_true_eq, Bool.false_eq_true, hl]; simp_all; done
  have p3 := e3; try simp only [nrm] at p3
  refine A.skip ?_
  refine A.bn ?_
  refine A.tn ?_
  refine A.region (A.g [.p, .p] [5, 17] [(6, (i_ 3))] ?_)
  refine A.tn ?_
  refine A.turnk (m := 396) ?_
  refine A.seq ?_
  refine A.region (A.g [.p] [] [(7, (b_ true))] ?_)
  refine A.tn ?_
  refine A.seq ?_
  refine A.ct ?_
  refine A.skip ?_
  refine A.tn ?_
  refine A.seq ?_
  refine A.block ?_
  refine A.seq ?_
  refine A.region (A.g [.p, .p] [7] [(5, (i_ 3))] ?_)
  refine A.tn ?_
  refine A.seq ?_
  refine A.dA [.p, .p, .p, .ld 0, .p, .p, .p, .ld 1, .p] [0, 1, 2, 3, 4, 5, 6, 7, 8] [] [(17, (b_ ((dA a) != (dA b))))] [b1, b2] T0 trivial ?_
  refine A.tn ?_
  refine A.cn ((dA a) != (dA b)) (fun e4 => ?_) (fun e4 => ?_)
  · have p4 := e4; try simp only [nrm] at p4
    refine A.seq ?_
    refine A.dA [.p, .p, .p, .ld 0, .p, .p, .p, .ld 1, .p, .p] [0, 1, 2, 3, 4, 5, 6, 7, 8, 9] [2, 3, 6, 5, 17] [(4, (b_ (decide ((dA a) < (dA b)))))] [b1, b2] T0 trivial ?_
    refine A.tn ?_
    refine A.ret ?_
    refine A.br ?_
    refine A.tr ?_
    refine A.tr ?_
    refine A.br ?_
    refine A.tr ?_
    refine A.pQ [(b_ (decide ((dA a) < (dA b))))] ?_
    show ((b_ (decide ((dA a) < (dA b)))) : Value) = (b_ (decide (a < b)))
    refine congrArg Value.bool ?_; rw [Bool.eq_iff_iff]; simp only [decide_eq_true_eq, Bool.false_eq_true, hl]; simp_all; done
  have p4 := e4; try simp only [nrm] at p4
  refine A.skip ?_
  refine A.bn ?_
  refine A.tn ?_
  refine A.region (A.g [.p, .p] [5, 17] [(6, (i_ 4))] ?_)
  refine A.tn ?_
  refine A.turnk (m := 395) ?_
  refine A.seq ?_
  refine A.region (A.g [.p] [] [(7, (b_ false))] ?_)
  refine A.tn ?_
  refine A.seq ?_
  refine A.cf ?_
  refine A.exit ?_
  refine A.te ?_
  refine A.te ?_
  refine A.bh ?_
  refine A.tn ?_
  refine A.seq ?_
  refine A.region (A.goA [.p] [(4, (b_ false))] [] T0 (by kernel_rfl) trivial ?_)
  refine A.tn ?_
  refine A.ret ?_
  refine A.pQ [(b_ false)] ?_
  show ((b_ false) : Value) = (b_ (decide (a < b)))
  refine congrArg Value.bool ?_; rw [Bool.eq_iff_iff]; simp only [decide_eq_true_eq, Bool.false_eq_true, hl]; simp_all; done

theorem rAdd_spec (a b : Int) (ha : 0 ≤ a ∧ a < W128) (hb : 0 ≤ b ∧ b < W128) (w : World) :
    Calls Try.prog 102 #[(.agg #[(u_ (dA a)), (u_ (dB a)), (u_ (dC a)), (u_ (dD a))]), (.agg #[(u_ (dA b)), (u_ (dB b)), (u_ (dC b)), (u_ (dD b))])] w fun e w' => e = .returned (.tuple #[(.agg #[(u_ (dA ((a + b) % 340282366920938463463374607431768211456))), (u_ (dB ((a + b) % 340282366920938463463374607431768211456))), (u_ (dC ((a + b) % 340282366920938463463374607431768211456))), (u_ (dD ((a + b) % 340282366920938463463374607431768211456)))]), (u_ ((a + b) / 340282366920938463463374607431768211456))]) ∧ Fr [] w w' := by
  have r1 := dg_rng ha; have r2 := dg_rng hb
  have e1 := dg_eq ha; have e2 := dg_eq hb
  refine calls_of (args := [(.agg #[(u_ (dA a)), (u_ (dB a)), (u_ (dC a)), (u_ (dD a))]), (.agg #[(u_ (dA b)), (u_ (dB b)), (u_ (dC b)), (u_ (dD b))])]) (penv [(.agg #[(u_ (dA a)), (u_ (dB a)), (u_ (dC a)), (u_ (dD a))]), (.agg #[(u_ (dA b)), (u_ (dB b)), (u_ (dC b)), (u_ (dD b))])]) [] [] Try.func102 rfl rfl (look_penv _) (HS.nil w) ?_
  refine A.seq ?_
  refine A.region (A.goA3 [.al, .al, .al, .p] [2, 3, 4] (fun b1 b2 b3 => [(2, (p_ b1)), (3, (p_ b2)), (4, (p_ b3))]) (fun b1 b2 b3 => [blk b1 [(u_ (dA a)), (u_ (dB a)), (u_ (dC a)), (u_ (dD a))] 36, blk b2 [(u_ (dA b)), (u_ (dB b)), (u_ (dC b)), (u_ (dD b))] 36, blk b3 [(u_ 0), (u_ 0), (u_ 0), (u_ 0)] 36]) (fun b1 b2 b3 => []) (fun _ _ _ => T0) (fun _ _ _ => by kernel_rfl) (fun b1 b2 b3 => trivial) ?_)
  intro b1 b2 b3
  refine A.tn ?_
  refine A.seq ?_
  refine A.region (A.g1 [.p, .al, .st 3] [] (fun b4 => [(6, (p_ b4))]) (fun b4 => []) (fun b4 => blk b4 [(u_ 0), (u_ 0), (u_ 0), (u_ 0)] 36) (fun b4 => [b4]) ?_)
  intro b4
  refine A.tn ?_
  refine A.seq ?_
  refine A.region (A.g [.p] [] [(7, (u_ 0))] ?_)
  refine A.tn ?_
  refine A.seq ?_
  refine A.seq ?_
  refine A.region (A.g [.p] [] [(11, (i_ 0))] ?_)
  refine A.tn ?_
  refine A.block ?_
  refine A.unroll 400 ?_
  refine A.turnk (m := 399) ?_
  refine A.seq ?_
  refine A.region (A.g [.p] [] [(12, (b_ true))] ?_)
  refine A.tn ?_
  refine A.seq ?_
  refine A.ct ?_
  refine A.skip ?_
  refine A.tn ?_
  refine A.seq ?_
  refine A.block ?_
  refine A.seq ?_
  refine A.region (A.g [.p, .p] [12] [(8, (i_ 0))] ?_)
  refine A.tn ?_
  refine A.seq ?_
  refine A.dA [.p, .p, .ld 0, .p, .p, .ld 1, .w ((dA a) + (dA b)), .p, .w (((dA a) + (dA b)) + 0), .p] [0, 1, 2, 3, 4, 5, 6, 7, 8, 9] [7] [(9, (u_ (((dA a) + (dA b)) + 0)))] [b1, b2] (fun κ => (IntKind.u64.wrap ((dA a) + (dA b)) = ((dA a) + (dA b))) ∧ (IntKind.u64.wrap (((dA a) + (dA b)) + 0) = (((dA a) + (dA b)) + 0)) ∧ True) ⟨(wrap_u64 (e := (dA a) + (dA b)) (by constructor <;> omega)), (wrap_u64 (e := ((dA a) + (dA b)) + 0) (by constructor <;> omega)), trivial⟩ ?_
  refine A.tn ?_
  refine A.seq ?_
  refine A.region (A.gp [.p, .p] [8] [(23, (i_ 0)), (24, (u_ (((dA a) + (dA b)) + 0)))] ?_)
  refine A.cons (A.q (some 25) (u_ ((((dA a) + (dA b)) + 0) % 4294967296)) (by kernel_rfl) (qt_as (congrArg (Value.int .u64) (u_tmod (by omega))) (qt_pure (v := .int .u64 ((((dA a) + (dA b)) + 0).tmod 4294967296)) (by kernel_rfl) fun _ => by kernel_rfl)) ?_)
  refine A.gs [.p, .st 3] [23, 24, 25] [] [(3, blk b4 [(u_ ((((dA a) + (dA b)) + 0) % 4294967296)), (u_ 0), (u_ 0), (u_ 0)] 36)] [b4] ?_
  refine A.tn ?_
  refine A.region (A.gk [.p, .w ((((dA a) + (dA b)) + 0) / 4294967296), .p] [9] [(7, (u_ ((((dA a) + (dA b)) + 0) / 4294967296)))] [] (fun κ => (IntKind.u64.wrap ((((dA a) + (dA b)) + 0).tdiv 4294967296) = (((dA a) + (dA b)) + 0) / 4294967296) ∧ True) ⟨(u_tdiv (by omega) (by decide)), trivial⟩ ?_)
  refine A.bn ?_
  refine A.tn ?_
  refine A.region (A.g [.p, .p] [] [(11, (i_ 1))] ?_)
  refine A.tn ?_
  refine A.turnk (m := 398) ?_
  refine A.seq ?_
  refine A.region (A.g [.p] [] [(12, (b_ true))] ?_)
  refine A.tn ?_
  refine A.seq ?_
  refine A.ct ?_
  refine A.skip ?_
  refine A.tn ?_
  refine A.seq ?_
  refine A.block ?_
  refine A.seq ?_
  refine A.region (A.g [.p, .p] [12] [(8, (i_ 1))] ?_)
  refine A.tn ?_
  refine A.seq ?_
  refine A.dA [.p, .p, .ld 0, .p, .p, .ld 1, .w ((dB a) + (dB b)), .p, .w (((dB a) + (dB b)) + ((((dA a) + (dA b)) + 0) / 4294967296)), .p] [0, 1, 2, 3, 4, 5, 6, 7, 8, 9] [7] [(9, (u_ (((dB a) + (dB b)) + ((((dA a) + (dA b)) + 0) / 4294967296))))] [b1, b2] (fun κ => (IntKind.u64.wrap ((dB a) + (dB b)) = ((dB a) + (dB b))) ∧ (IntKind.u64.wrap (((dB a) + (dB b)) + ((((dA a) + (dA b)) + 0) / 4294967296)) = (((dB a) + (dB b)) + ((((dA a) + (dA b)) + 0) / 4294967296))) ∧ True) ⟨(wrap_u64 (e := (dB a) + (dB b)) (by constructor <;> omega)), (wrap_u64 (e := ((dB a) + (dB b)) + ((((dA a) + (dA b)) + 0) / 4294967296)) (by constructor <;> omega)), trivial⟩ ?_
  refine A.tn ?_
  refine A.seq ?_
  refine A.region (A.gp [.p, .p] [8] [(23, (i_ 1)), (24, (u_ (((dB a) + (dB b)) + ((((dA a) + (dA b)) + 0) / 4294967296))))] ?_)
  refine A.cons (A.q (some 25) (u_ ((((dB a) + (dB b)) + ((((dA a) + (dA b)) + 0) / 4294967296)) % 4294967296)) (by kernel_rfl) (qt_as (congrArg (Value.int .u64) (u_tmod (by omega))) (qt_pure (v := .int .u64 ((((dB a) + (dB b)) + ((((dA a) + (dA b)) + 0) / 4294967296)).tmod 4294967296)) (by kernel_rfl) fun _ => by kernel_rfl)) ?_)
  refine A.gs [.p, .st 3] [23, 24, 25] [] [(3, blk b4 [(u_ ((((dA a) + (dA b)) + 0) % 4294967296)), (u_ ((((dB a) + (dB b)) + ((((dA a) + (dA b)) + 0) / 4294967296)) % 4294967296)), (u_ 0), (u_ 0)] 36)] [b4] ?_
  refine A.tn ?_
  refine A.region (A.gk [.p, .w ((((dB a) + (dB b)) + ((((dA a) + (dA b)) + 0) / 4294967296)) / 4294967296), .p] [9] [(7, (u_ ((((dB a) + (dB b)) + ((((dA a) + (dA b)) + 0) / 4294967296)) / 4294967296)))] [] (fun κ => (IntKind.u64.wrap ((((dB a) + (dB b)) + ((((dA a) + (dA b)) + 0) / 4294967296)).tdiv 4294967296) = (((dB a) + (dB b)) + ((((dA a) + (dA b)) + 0) / 4294967296)) / 4294967296) ∧ True) ⟨(u_tdiv (by omega) (by decide)), trivial⟩ ?_)
  refine A.bn ?_
  refine A.tn ?_
  refine A.region (A.goA [.p, .p] [(2, (p_ b1)), (3, (p_ b2)), (4, (p_ b3)), (6, (p_ b4)), (11, (i_ 2)), (7, (u_ ((((dB a) + (dB b)) + ((((dA a) + (dA b)) + 0) / 4294967296)) / 4294967296)))] [] T0 (by kernel_rfl) trivial ?_)
  refine A.tn ?_
  refine A.turnk (m := 397) ?_
  refine A.seq ?_
  refine A.region (A.g [.p] [] [(12, (b_ true))] ?_)
  refine A.tn ?_
  refine A.seq ?_
  refine A.ct ?_
  refine A.skip ?_
  refine A.tn ?_
  refine A.seq ?_
  refine A.block ?_
  refine A.seq ?_
  refine A.region (A.g [.p, .p] [12] [(8, (i_ 2))] ?_)
  refine A.tn ?_
  refine A.seq ?_
  refine A.dA [.p, .p, .ld 0, .p, .p, .ld 1, .w ((dC a) + (dC b)), .p, .w (((dC a) + (dC b)) + ((((dB a) + (dB b)) + ((((dA a) + (dA b)) + 0) / 4294967296)) / 4294967296)), .p] [0, 1, 2, 3, 4, 5, 6, 7, 8, 9] [7] [(9, (u_ (((dC a) + (dC b)) + ((((dB a) + (dB b)) + ((((dA a) + (dA b)) + 0) / 4294967296)) / 4294967296))))] [b1, b2] (fun κ => (IntKind.u64.wrap ((dC a) + (dC b)) = ((dC a) + (dC b))) ∧ (IntKind.u64.wrap (((dC a) + (dC b)) + ((((dB a) + (dB b)) + ((((dA a) + (dA b)) + 0) / 4294967296)) / 4294967296)) = (((dC a) + (dC b)) + ((((dB a) + (dB b)) + ((((dA a) + (dA b)) + 0) / 4294967296)) / 4294967296))) ∧ True) ⟨(wrap_u64 (e := (dC a) + (dC b)) (by constructor <;> omega)), (wrap_u64 (e := ((dC a) + (dC b)) + ((((dB a) + (dB b)) + ((((dA a) + (dA b)) + 0) / 4294967296)) / 4294967296)) (by constructor <;> omega)), trivial⟩ ?_
  refine A.tn ?_
  refine A.seq ?_
  refine A.region (A.gp [.p, .p] [8] [(23, (i_ 2)), (24, (u_ (((dC a) + (dC b)) + ((((dB a) + (dB b)) + ((((dA a) + (dA b)) + 0) / 4294967296)) / 4294967296))))] ?_)
  refine A.cons (A.q (some 25) (u_ ((((dC a) + (dC b)) + ((((dB a) + (dB b)) + ((((dA a) + (dA b)) + 0) / 4294967296)) / 4294967296)) % 4294967296)) (by kernel_rfl) (qt_as (congrArg (Value.int .u64) (u_tmod (by omega))) (qt_pure (v := .int .u64 ((((dC a) + (dC b)) + ((((dB a) + (dB b)) + ((((dA a) + (dA b)) + 0) / 4294967296)) / 4294967296)).tmod 4294967296)) (by kernel_rfl) fun _ => by kernel_rfl)) ?_)
  refine A.gs [.p, .st 3] [23, 24, 25] [] [(3, blk b4 [(u_ ((((dA a) + (dA b)) + 0) % 4294967296)), (u_ ((((dB a) + (dB b)) + ((((dA a) + (dA b)) + 0) / 4294967296)) % 4294967296)), (u_ ((((dC a) + (dC b)) + ((((dB a) + (dB b)) + ((((dA a) + (dA b)) + 0) / 4294967296)) / 4294967296)) % 4294967296)), (u_ 0)] 36)] [b4] ?_
  refine A.tn ?_
  refine A.region (A.gk [.p, .w ((((dC a) + (dC b)) + ((((dB a) + (dB b)) + ((((dA a) + (dA b)) + 0) / 4294967296)) / 4294967296)) / 4294967296), .p] [9] [(7, (u_ ((((dC a) + (dC b)) + ((((dB a) + (dB b)) + ((((dA a) + (dA b)) + 0) / 4294967296)) / 4294967296)) / 4294967296)))] [] (fun κ => (IntKind.u64.wrap ((((dC a) + (dC b)) + ((((dB a) + (dB b)) + ((((dA a) + (dA b)) + 0) / 4294967296)) / 4294967296)).tdiv 4294967296) = (((dC a) + (dC b)) + ((((dB a) + (dB b)) + ((((dA a) + (dA b)) + 0) / 4294967296)) / 4294967296)) / 4294967296) ∧ True) ⟨(u_tdiv (by omega) (by decide)), trivial⟩ ?_)
  refine A.bn ?_
  refine A.tn ?_
  refine A.region (A.g [.p, .p] [] [(11, (i_ 3))] ?_)
  refine A.tn ?_
  refine A.turnk (m := 396) ?_
  refine A.seq ?_
  refine A.region (A.g [.p] [] [(12, (b_ true))] ?_)
  refine A.tn ?_
  refine A.seq ?_
  refine A.ct ?_
  refine A.skip ?_
  refine A.tn ?_
  refine A.seq ?_
  refine A.block ?_
  refine A.seq ?_
  refine A.region (A.g [.p, .p] [12] [(8, (i_ 3))] ?_)
  refine A.tn ?_
  refine A.seq ?_
  refine A.dA [.p, .p, .ld 0, .p, .p, .ld 1, .w ((dD a) + (dD b)), .p, .w (((dD a) + (dD b)) + ((((dC a) + (dC b)) + ((((dB a) + (dB b)) + ((((dA a) + (dA b)) + 0) / 4294967296)) / 4294967296)) / 4294967296)), .p] [0, 1, 2, 3, 4, 5, 6, 7, 8, 9] [7] [(9, (u_ (((dD a) + (dD b)) + ((((dC a) + (dC b)) + ((((dB a) + (dB b)) + ((((dA a) + (dA b)) + 0) / 4294967296)) / 4294967296)) / 4294967296))))] [b1, b2] (fun κ => (IntKind.u64.wrap ((dD a) + (dD b)) = ((dD a) + (dD b))) ∧ (IntKind.u64.wrap (((dD a) + (dD b)) + ((((dC a) + (dC b)) + ((((dB a) + (dB b)) + ((((dA a) + (dA b)) + 0) / 4294967296)) / 4294967296)) / 4294967296)) = (((dD a) + (dD b)) + ((((dC a) + (dC b)) + ((((dB a) + (dB b)) + ((((dA a) + (dA b)) + 0) / 4294967296)) / 4294967296)) / 4294967296))) ∧ True) ⟨(wrap_u64 (e := (dD a) + (dD b)) (by constructor <;> omega)), (wrap_u64 (e := ((dD a) + (dD b)) + ((((dC a) + (dC b)) + ((((dB a) + (dB b)) + ((((dA a) + (dA b)) + 0) / 4294967296)) / 4294967296)) / 4294967296)) (by constructor <;> omega)), trivial⟩ ?_
  refine A.tn ?_
  refine A.seq ?_
  refine A.region (A.gp [.p, .p] [8] [(23, (i_ 3)), (24, (u_ (((dD a) + (dD b)) + ((((dC a) + (dC b)) + ((((dB a) + (dB b)) + ((((dA a) + (dA b)) + 0) / 4294967296)) / 4294967296)) / 4294967296))))] ?_)
  refine A.cons (A.q (some 25) (u_ ((((dD a) + (dD b)) + ((((dC a) + (dC b)) + ((((dB a) + (dB b)) + ((((dA a) + (dA b)) + 0) / 4294967296)) / 4294967296)) / 4294967296)) % 4294967296)) (by kernel_rfl) (qt_as (congrArg (Value.int .u64) (u_tmod (by omega))) (qt_pure (v := .int .u64 ((((dD a) + (dD b)) + ((((dC a) + (dC b)) + ((((dB a) + (dB b)) + ((((dA a) + (dA b)) + 0) / 4294967296)) / 4294967296)) / 4294967296)).tmod 4294967296)) (by kernel_rfl) fun _ => by kernel_rfl)) ?_)
  refine A.gs [.p, .st 3] [23, 24, 25] [] [(3, blk b4 [(u_ ((((dA a) + (dA b)) + 0) % 4294967296)), (u_ ((((dB a) + (dB b)) + ((((dA a) + (dA b)) + 0) / 4294967296)) % 4294967296)), (u_ ((((dC a) + (dC b)) + ((((dB a) + (dB b)) + ((((dA a) + (dA b)) + 0) / 4294967296)) / 4294967296)) % 4294967296)), (u_ ((((dD a) + (dD b)) + ((((dC a) + (dC b)) + ((((dB a) + (dB b)) + ((((dA a) + (dA b)) + 0) / 4294967296)) / 4294967296)) / 4294967296)) % 4294967296))] 36)] [b4] ?_
  refine A.tn ?_
  refine A.region (A.gk [.p, .w ((((dD a) + (dD b)) + ((((dC a) + (dC b)) + ((((dB a) + (dB b)) + ((((dA a) + (dA b)) + 0) / 4294967296)) / 4294967296)) / 4294967296)) / 4294967296), .p] [9] [(7, (u_ ((((dD a) + (dD b)) + ((((dC a) + (dC b)) + ((((dB a) + (dB b)) + ((((dA a) + (dA b)) + 0) / 4294967296)) / 4294967296)) / 4294967296)) / 4294967296)))] [] (fun κ => (IntKind.u64.wrap ((((dD a) + (dD b)) + ((((dC a) + (dC b)) + ((((dB a) + (dB b)) + ((((dA a) + (dA b)) + 0) / 4294967296)) / 4294967296)) / 4294967296)).tdiv 4294967296) = (((dD a) + (dD b)) + ((((dC a) + (dC b)) + ((((dB a) + (dB b)) + ((((dA a) + (dA b)) + 0) / 4294967296)) / 4294967296)) / 4294967296)) / 4294967296) ∧ True) ⟨(u_tdiv (by omega) (by decide)), trivial⟩ ?_)
  refine A.bn ?_
  refine A.tn ?_
  refine A.region (A.g [.p, .p] [] [(11, (i_ 4))] ?_)
  refine A.tn ?_
  refine A.turnk (m := 395) ?_
  refine A.seq ?_
  refine A.region (A.g [.p] [] [(12, (b_ false))] ?_)
  refine A.tn ?_
  refine A.seq ?_
  refine A.cf ?_
  refine A.exit ?_
  refine A.te ?_
  refine A.te ?_
  refine A.bh ?_
  refine A.tn ?_
  refine A.seq ?_
  refine A.region (A.gs [.ld 3, .p, .st 2, .p] [2, 3, 6, 11, 7, 12] [(5, (u_ ((((dD a) + (dD b)) + ((((dC a) + (dC b)) + ((((dB a) + (dB b)) + ((((dA a) + (dA b)) + 0) / 4294967296)) / 4294967296)) / 4294967296)) / 4294967296)))] [(2, blk b3 [(u_ ((((dA a) + (dA b)) + 0) % 4294967296)), (u_ ((((dB a) + (dB b)) + ((((dA a) + (dA b)) + 0) / 4294967296)) % 4294967296)), (u_ ((((dC a) + (dC b)) + ((((dB a) + (dB b)) + ((((dA a) + (dA b)) + 0) / 4294967296)) / 4294967296)) % 4294967296)), (u_ ((((dD a) + (dD b)) + ((((dC a) + (dC b)) + ((((dB a) + (dB b)) + ((((dA a) + (dA b)) + 0) / 4294967296)) / 4294967296)) / 4294967296)) % 4294967296))] 36)] [b4, b3] ?_)
  refine A.tn ?_
  refine A.ret ?_
  refine A.postQ [(.agg #[(u_ ((((dA a) + (dA b)) + 0) % 4294967296)), (u_ ((((dB a) + (dB b)) + ((((dA a) + (dA b)) + 0) / 4294967296)) % 4294967296)), (u_ ((((dC a) + (dC b)) + ((((dB a) + (dB b)) + ((((dA a) + (dA b)) + 0) / 4294967296)) / 4294967296)) % 4294967296)), (u_ ((((dD a) + (dD b)) + ((((dC a) + (dC b)) + ((((dB a) + (dB b)) + ((((dA a) + (dA b)) + 0) / 4294967296)) / 4294967296)) / 4294967296)) % 4294967296))]), (u_ ((((dD a) + (dD b)) + ((((dC a) + (dC b)) + ((((dB a) + (dB b)) + ((((dA a) + (dA b)) + 0) / 4294967296)) / 4294967296)) / 4294967296)) / 4294967296))] (fun aa ww rr ss => ⟨rv_cellN (vs := [(u_ ((((dA a) + (dA b)) + 0) % 4294967296)), (u_ ((((dB a) + (dB b)) + ((((dA a) + (dA b)) + 0) / 4294967296)) % 4294967296)), (u_ ((((dC a) + (dC b)) + ((((dB a) + (dB b)) + ((((dA a) + (dA b)) + 0) / 4294967296)) / 4294967296)) % 4294967296)), (u_ ((((dD a) + (dD b)) + ((((dC a) + (dC b)) + ((((dB a) + (dB b)) + ((((dA a) + (dA b)) + 0) / 4294967296)) / 4294967296)) / 4294967296)) % 4294967296))]) rr ss rfl (by kernel_rfl) (reads_blk (i := 2) rfl rfl), rv_tmp rr rfl, trivial⟩) ?_
  show ((.tuple #[(.agg #[(u_ ((((dA a) + (dA b)) + 0) % 4294967296)), (u_ ((((dB a) + (dB b)) + ((((dA a) + (dA b)) + 0) / 4294967296)) % 4294967296)), (u_ ((((dC a) + (dC b)) + ((((dB a) + (dB b)) + ((((dA a) + (dA b)) + 0) / 4294967296)) / 4294967296)) % 4294967296)), (u_ ((((dD a) + (dD b)) + ((((dC a) + (dC b)) + ((((dB a) + (dB b)) + ((((dA a) + (dA b)) + 0) / 4294967296)) / 4294967296)) / 4294967296)) % 4294967296))]), (u_ ((((dD a) + (dD b)) + ((((dC a) + (dC b)) + ((((dB a) + (dB b)) + ((((dA a) + (dA b)) + 0) / 4294967296)) / 4294967296)) / 4294967296)) / 4294967296))]) : Value) = (.tuple #[(.agg #[(u_ (dA ((a + b) % 340282366920938463463374607431768211456))), (u_ (dB ((a + b) % 340282366920938463463374607431768211456))), (u_ (dC ((a + b) % 340282366920938463463374607431768211456))), (u_ (dD ((a + b) % 340282366920938463463374607431768211456)))]), (u_ ((a + b) / 340282366920938463463374607431768211456))])
  obtain ⟨q0_, q1_, q2_, q3_⟩ := dg_mk (v := ((a + b) % 340282366920938463463374607431768211456)) (a := (((dA a) + (dA b)) + 0) % 4294967296) (b := (((dB a) + (dB b)) + ((((dA a) + (dA b)) + 0) / 4294967296)) % 4294967296) (c := (((dC a) + (dC b)) + ((((dB a) + (dB b)) + ((((dA a) + (dA b)) + 0) / 4294967296)) / 4294967296)) % 4294967296) (d := (((dD a) + (dD b)) + ((((dC a) + (dC b)) + ((((dB a) + (dB b)) + ((((dA a) + (dA b)) + 0) / 4294967296)) / 4294967296)) / 4294967296)) % 4294967296) (by omega) (by omega) (by omega) (by omega) (by omega); have q4_ : ((((dD a) + (dD b)) + ((((dC a) + (dC b)) + ((((dB a) + (dB b)) + ((((dA a) + (dA b)) + 0) / 4294967296)) / 4294967296)) / 4294967296)) / 4294967296) = (((a + b) / 340282366920938463463374607431768211456)) := (by unfold W128 at *; omega); rw [← q0_, ← q1_, ← q2_, ← q3_, q4_]

theorem rPlus_spec (a b : Int) (ha : 0 ≤ a ∧ a < W128) (hb : 0 ≤ b ∧ b < W128) (w : World) :
    Calls Try.prog 53 #[(.agg #[(u_ (dA a)), (u_ (dB a)), (u_ (dC a)), (u_ (dD a))]), (.agg #[(u_ (dA b)), (u_ (dB b)), (u_ (dC b)), (u_ (dD b))])] w fun e w' => e = .returned (.agg #[(u_ (dA ((a + b) % 340282366920938463463374607431768211456))), (u_ (dB ((a + b) % 340282366920938463463374607431768211456))), (u_ (dC ((a + b) % 340282366920938463463374607431768211456))), (u_ (dD ((a + b) % 340282366920938463463374607431768211456)))]) ∧ Fr [] w w' := by
  refine calls_of (args := [(.agg #[(u_ (dA a)), (u_ (dB a)), (u_ (dC a)), (u_ (dD a))]), (.agg #[(u_ (dA b)), (u_ (dB b)), (u_ (dC b)), (u_ (dD b))])]) (penv [(.agg #[(u_ (dA a)), (u_ (dB a)), (u_ (dC a)), (u_ (dD a))]), (.agg #[(u_ (dA b)), (u_ (dB b)), (u_ (dC b)), (u_ (dD b))])]) [] [] Try.func53 rfl rfl (look_penv _) (HS.nil w) ?_
  refine A.seq ?_
  refine A.region (A.goA3 [.al, .al, .al] [2, 3, 4] (fun b1 b2 b3 => [(2, (p_ b1)), (3, (p_ b2)), (4, (p_ b3))]) (fun b1 b2 b3 => [blk b1 [(u_ (dA a)), (u_ (dB a)), (u_ (dC a)), (u_ (dD a))] 36, blk b2 [(u_ (dA b)), (u_ (dB b)), (u_ (dC b)), (u_ (dD b))] 36, blk b3 [(u_ 0), (u_ 0), (u_ 0), (u_ 0)] 36]) (fun b1 b2 b3 => []) (fun _ _ _ => T0) (fun _ _ _ => by kernel_rfl) (fun b1 b2 b3 => trivial) ?_)
  intro b1 b2 b3
  refine A.tn ?_
  refine A.seq ?_
  refine A.region (A.goA1 [.ld 0, .ld 1, .cq (.tuple #[(.agg #[(u_ (dA ((a + b) % 340282366920938463463374607431768211456))), (u_ (dB ((a + b) % 340282366920938463463374607431768211456))), (u_ (dC ((a + b) % 340282366920938463463374607431768211456))), (u_ (dD ((a + b) % 340282366920938463463374607431768211456)))]), (u_ ((a + b) / 340282366920938463463374607431768211456))]), .p, .p, .p, .al, .st 3, .p] [4, 5] (fun b4 => [(4, (p_ b3)), (5, (p_ b4))]) (fun b4 => [blk b1 [(u_ (dA a)), (u_ (dB a)), (u_ (dC a)), (u_ (dD a))] 36, blk b2 [(u_ (dA b)), (u_ (dB b)), (u_ (dC b)), (u_ (dD b))] 36, blk b3 [(u_ 0), (u_ 0), (u_ 0), (u_ 0)] 36, blk b4 [(u_ (dA ((a + b) % 340282366920938463463374607431768211456))), (u_ (dB ((a + b) % 340282366920938463463374607431768211456))), (u_ (dC ((a + b) % 340282366920938463463374607431768211456))), (u_ (dD ((a + b) % 340282366920938463463374607431768211456)))] 36]) (fun b4 => [b1, b2, b4]) (fun _ => (fun κ => κ.call 102 [(.agg #[(u_ (dA a)), (u_ (dB a)), (u_ (dC a)), (u_ (dD a))]), (.agg #[(u_ (dA b)), (u_ (dB b)), (u_ (dC b)), (u_ (dD b))])] (.tuple #[(.agg #[(u_ (dA ((a + b) % 340282366920938463463374607431768211456))), (u_ (dB ((a + b) % 340282366920938463463374607431768211456))), (u_ (dC ((a + b) % 340282366920938463463374607431768211456))), (u_ (dD ((a + b) % 340282366920938463463374607431768211456)))]), (u_ ((a + b) / 340282366920938463463374607431768211456))]) ∧ True)) (fun _ => by kernel_rfl) (fun b4 => ⟨(fun ww ss => rAdd_spec a b (by assumption) (by assumption) ww), trivial⟩) ?_)
  intro b4
  refine A.tn ?_
  refine A.seq ?_
  refine A.region (A.gs [.ld 3, .st 2] [5] [] [(2, blk b3 [(u_ (dA ((a + b) % 340282366920938463463374607431768211456))), (u_ (dB ((a + b) % 340282366920938463463374607431768211456))), (u_ (dC ((a + b) % 340282366920938463463374607431768211456))), (u_ (dD ((a + b) % 340282366920938463463374607431768211456)))] 36)] [b4, b3] ?_)
  refine A.tn ?_
  refine A.ret ?_
  refine A.postQ [(.agg #[(u_ (dA ((a + b) % 340282366920938463463374607431768211456))), (u_ (dB ((a + b) % 340282366920938463463374607431768211456))), (u_ (dC ((a + b) % 340282366920938463463374607431768211456))), (u_ (dD ((a + b) % 340282366920938463463374607431768211456)))])] (fun aa ww rr ss => ⟨rv_cellN (vs := [(u_ (dA ((a + b) % 340282366920938463463374607431768211456))), (u_ (dB ((a + b) % 340282366920938463463374607431768211456))), (u_ (dC ((a + b) % 340282366920938463463374607431768211456))), (u_ (dD ((a + b) % 340282366920938463463374607431768211456)))]) rr ss rfl (by kernel_rfl) (reads_blk (i := 2) rfl rfl), trivial⟩) ?_
  rfl
end Go.Proofs.Ytinnnoimmioaiaa
