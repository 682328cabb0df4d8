/- What the functions of this layer do, proved operation by operation, for all arguments, under the conditions that each theorem states. -/
import Derived.Test.YtinnnoimmioaiaaProg
import Derived.Test.YtinnnoimmioaiaaSum2
import Derived.Test.YtinnnoimmioaiaaL2
namespace Go.Proofs.Ytinnnoimmioaiaa
open Go V
set_option linter.unusedVariables false
set_option linter.unusedSimpArgs false
set_option maxHeartbeats 4000000
set_option maxRecDepth 100000
def badV (v : Cv) : Bool := ofC v.ka v.kb v.kc == 0
def mayE (t : Int) (l : List Cv) : Int := if t < 1 ∨ t > 65536 then 1 else if l.any badV = true then 21 else 0
/-- above what a link has -/
def abv (l : List Cv) (t k : Int) : Bool := decide (svs l k * t > 65536 * k)
def fullW (t : Int) (l : List Cv) : Int × Bool := if mayE t l ≠ 0 then (0, false) else match (knC l).find? (abv l t) with
  | some k => (k, true)
  | none => (0, decide (slps false l * t > 65536 * 1))
def fitE (t : Int) (l : List Cv) : Int := if mayE t l ≠ 0 then mayE t l else if (fullW t l).2 = true then 22 else 0
theorem mul_p {x t X : Int} (hx : 0 ≤ x ∧ x ≤ X) (ht : 1 ≤ t ∧ t ≤ 65536) : 0 ≤ x * t ∧ x * t ≤ X * 65536 := mul_b hx (by omega)
theorem anyV_t {l : List Cv} {f : Cv → Bool} {k : Nat} {i : Cv} (h : l[k]? = some i) (hf : f i = true) : l.any f = true := List.any_eq_true.2 ⟨i, List.mem_of_getElem? h, hf⟩
theorem anyV_f {l : List Cv} {f : Cv → Bool} {k : Nat} (hn : ∀ x ∈ l.take k, f x = false) (hk : l.length ≤ k) : l.any f = false := by
  rw [List.take_of_length_le hk] at hn; rw [List.any_eq_false]; intro x hx; simp [hn x hx]
theorem anyV_s {l : List Cv} {f : Cv → Bool} {k : Nat} {i : Cv} (hn : ∀ x ∈ l.take k, f x = false) (h : l[k]? = some i) (hf : f i = false) : ∀ x ∈ l.take (k + 1), f x = false := by
  rw [take_snoc h]; intro x hx; rcases List.mem_append.1 hx with hx | hx
  · exact hn x hx
  · simp at hx; rw [hx]; exact hf
theorem fndI_s {l : List Int} {f : Int → Bool} {k : Nat} {i : Int} (hn : ∀ x ∈ l.take k, f x = false) (h : l[k]? = some i) (hf : f i = false) : ∀ x ∈ l.take (k + 1), f x = false := by
  rw [take_snoc h]; intro x hx; rcases List.mem_append.1 hx with hx | hx
  · exact hn x hx
  · simp at hx; rw [hx]; exact hf
theorem fndI_at {l : List Int} {f : Int → Bool} {k : Nat} {x : Int} (hn : ∀ x ∈ l.take k, f x = false) (h : l[k]? = some x) (hf : f x = true) : l.find? f = some x := by
  have hlt := (List.getElem?_eq_some_iff.1 h).1
  have e : l = l.take k ++ x :: l.drop (k + 1) := by
    have := List.getElem?_eq_some_iff.1 h
    rw [← this.2, List.getElem_cons_drop, List.take_append_drop]
  rw [List.find?_eq_some_iff_append]
  exact ⟨hf, _, _, e, fun y hy => by simp [hn y hy]⟩
theorem fndI_no {l : List Int} {f : Int → Bool} {k : Nat} (hn : ∀ x ∈ l.take k, f x = false) (hk : l.length ≤ k) : l.find? f = none := by
  rw [List.take_of_length_le hk] at hn; rw [List.find?_eq_none]; intro x hx; simp [hn x hx]
theorem may_0 {t : Int} {l : List Cv} (h : mayE t l = 0) : (1 ≤ t ∧ t ≤ 65536) ∧ ∀ v ∈ l, ofC v.ka v.kb v.kc ≠ 0 := by
  unfold mayE at h; split at h
  · omega
  · split at h
    · omega
    · rename_i h1 h2
      refine ⟨by omega, fun v hv e => h2 (List.any_eq_true.2 ⟨v, hv, by unfold badV; rw [e]; rfl⟩)⟩
theorem knC_rng {l : List Cv} (hR : ∀ v ∈ l, CvOk v) : ∀ y ∈ knC l, 0 ≤ y ∧ y < 18446744073709551616 := fun y hy => by
  have h := ((cmp_sort (kraw l)).2 y).1 hy
  unfold kraw at h
  obtain ⟨v, hv, rfl⟩ := List.mem_map.1 h
  exact (cv_nn (hR v (List.mem_filter.1 hv).1)).2.1

theorem may_spec (t : Int) (al : Option Addr) (l : List Cv) (cl : Nat) (hl : l.length ≤ 1000) (w : World) (r0 : arrAt w al (V.flat encCv l)) :
    Calls Try.prog 40 #[i_ t, vS al l cl] w fun e w' => e = .returned (i_ (mayE t l)) ∧ Fr [] w w' := by
  refine calls_of (args := [i_ t, vS al l cl]) (penv [i_ t, vS al l cl]) [] [] Try.func40 rfl rfl (look_penv _) (HS.nil w) ?_
  refine A.sr (A.g [.p] [] [] ?_)
  refine A.tn (A.seq (A.block (A.sr (A.g [.p, .p, .p, .o, .p, .p, .cl, .p] [0] [(5, b_ ((decide (t < 1)) || (decide (t > 65536))))] ?_))))
  refine A.tn (A.cn ((decide (t < 1)) || (decide (t > 65536))) (fun e1 => ?_) (fun e1 => ?_))
  · have p1 := e1; try simp only [nrm] at p1
    refine A.sr (A.g [.p] [1, 5] [(4, i_ 1)] ?_)
    refine A.tn (A.ret (A.br (A.tr (A.pQ [i_ 1] ?_))))
    show ((i_ 1) : Value) = (i_ (mayE t l))
    refine congrArg (Value.int .i64) ?_; unfold mayE; (rw [if_pos (by omega)]; done)
  have p1 := e1; try simp only [nrm] at p1
  refine A.sr (A.gp [.p] [1, 5] [(13, vS al l cl)] ?_)
  refine A.cons (A.inlX (some 14) [vS al l cl, (.func (.func 84) #[] #[])] [(0, vS al l cl), (1, (.func (.func 84) #[] #[]))] (by kernel_rfl) rfl Try.func83 rfl rfl ?_)
  refine A.sr (A.g [.p] [] [] ?_)
  refine tsr (A.gp [.p, .p] [0, 1] [(5, vS al l cl), (6, (.func (.func 84) #[] #[]))] ?_)
  refine A.cons (A.inlX (some 7) [vS al l cl, (.func (.func 84) #[] #[])] [(0, vS al l cl), (1, (.func (.func 84) #[] #[]))] (by kernel_rfl) rfl Try.func123 rfl rfl ?_)
  refine A.sr (A.g [.p] [] [] ?_)
  refine A.tn (A.seq (A.sr (A.g [.p, .p, .p] [] [(7, c_ l.length), (8, i_ 0)] ?_)))
  refine A.tn (A.block (A.loop (fun (zz : Nat) => match zz with | k => [(0, vS al l cl), (1, (.func (.func 84) #[] #[])), (7, c_ l.length), (8, c_ k)]) (fun (zz : Nat) => match zz with | k => []) (fun (zz : Nat) => match zz with | k => (k ≤ l.length) ∧ (∀ x ∈ l.take k, badV x = false)) (fun (zz : Nat) => match zz with | k => l.length - k) (0 : Nat) ⟨(by omega), (by simp)⟩ ?_ ?_))
  · exact A.hK []
  rintro k ⟨hk, hn⟩
  refine A.sr (A.g [.p] [] [(9, b_ (decide ((k : Int) < (l.length : Int))))] ?_)
  refine A.tn (A.seq (A.cn (decide ((k : Int) < (l.length : Int))) (fun e2 => ?_) (fun e2 => ?_)))
  · have p2 := of_decide_eq_true e2
    refine A.skip (A.tn (A.seq (A.block (A.sr (A.g [.p, .p] [9] [(5, c_ k)] ?_)))))
    refine tsr (A.gpk [.p, .p, .p, .ix] [] [(11, (.func (.func 84) #[] #[])), (14, (.pointer (some ((at0 al).add (k * 3)))))] [] (fun κ => κ.ix al l.length (k : Int) ∧ True) ⟨(ixOf encCv_len (by decide) (rd_old r0 (by simp [feet])) (by omega)), trivial⟩ ?_)
    obtain ⟨x1, hx1⟩ : ∃ x, (l)[k]? = some x := ⟨_, List.getElem?_eq_getElem (by omega)⟩
    refine A.gpk [.rd (encCv x1)] [14] [(15, (.agg (encCv x1).toArray))] [] (fun κ => κ.rd ((at0 al).add (k * 3)) (encCv x1) ∧ True) ⟨(reads_at0 (vs := (encCv x1)) encCv_len (rd_old r0 (by simp [feet])) hx1 (Nat.le_of_ble_eq_true rfl) rfl), trivial⟩ ?_
    refine A.cons (A.inlX (some 16) [(.agg (encCv x1).toArray)] [(0, (.agg (encCv x1).toArray))] (by kernel_rfl) rfl Try.func84 rfl rfl ?_)
    refine A.sr (A.n1 [.al, .p] [0] (fun b2 => [(1, p_ b2)]) (fun b2 => blk b2 (encCv x1) 43) ?_)
    intro b2
    refine tsr (A.gk [.ld 0, .cq (b_ (ofC x1.ka x1.kb x1.kc != 0)), .p, .p] [1] [(2, b_ (!(ofC x1.ka x1.kb x1.kc != 0)))] [b2] (fun κ => κ.call 85 [(.agg (encCv x1).toArray)] (b_ (ofC x1.ka x1.kb x1.kc != 0)) ∧ True) ⟨(fun ww ss => cright_spec x1.ka x1.kb x1.kc ww), trivial⟩ ?_)
    refine A.tn (A.ret (A.post [b_ (!(ofC x1.ka x1.kb x1.kc != 0))] (fun aa ww rr ss => ⟨rv_tmp rr rfl, trivial⟩) (A.back (by kernel_rfl) ?_)))
    refine A.items [] (.cons _ (List.Sublist.slnil)) ?_
    refine A.done ?_
    refine A.tn (A.cn (!(ofC x1.ka x1.kb x1.kc != 0)) (fun e3 => ?_) (fun e3 => ?_))
    · have p3 := e3; try simp only [nrm] at p3
      refine A.sr (A.goA [.p, .p] [(4, c_ k)] [] T0 (by kernel_rfl) trivial ?_)
      refine A.tn (A.ret (A.br (A.tr (A.tr (A.br (A.tr (A.post [c_ k] (fun aa ww rr ss => ⟨rv_tmp rr rfl, trivial⟩) (A.back (by kernel_rfl) ?_))))))))
      refine A.goA [.p, .p] [(4, b_ (decide ((k : Int) ≥ 0)))] [] T0 (by kernel_rfl) trivial ?_
      refine A.tn (A.ret (A.post [b_ (decide ((k : Int) ≥ 0))] (fun aa ww rr ss => ⟨rv_tmp rr rfl, trivial⟩) (A.back (by kernel_rfl) ?_)))
      refine A.goA [.p] [(12, b_ (decide ((k : Int) ≥ 0)))] [] T0 (by kernel_rfl) trivial ?_
      refine A.tn (A.cn (decide ((k : Int) ≥ 0)) (fun e4 => ?_) (fun e4 => ?_))
      · have p4 := of_decide_eq_true e4
        refine A.sr (A.g [.p] [12] [(4, i_ 21)] ?_)
        refine A.tn (A.ret (A.br (A.tr (A.pQ [i_ 21] ?_))))
        show ((i_ 21) : Value) = (i_ (mayE t l))
        refine congrArg (Value.int .i64) ?_; unfold mayE; (rw [if_neg (by omega), if_pos (anyV_t (by assumption) (by unfold badV; simp_all))]; done)
      have p4 := of_decide_eq_false e4
      refine A.skip (A.bn (tsr (A.g [.p] [12] [(4, i_ 0)] ?_)))
      refine A.tn (A.ret (A.pQ [i_ 0] ?_))
      show ((i_ 0) : Value) = (i_ (mayE t l))
      refine congrArg (Value.int .i64) ?_; unfold mayE; (rw [if_neg (by omega), if_neg (by rw [anyV_f hn (by omega)]; decide)]; done)
    have p3 := e3; try simp only [nrm] at p3
    refine A.skip (A.bn (tr (A.goA [.w ((k : Int) + 1), .p] [(0, vS al l cl), (1, (.func (.func 84) #[] #[])), (7, c_ l.length), (8, i_ ((k : Int) + 1))] [] (fun κ => (IntKind.i64.wrap ((k : Int) + 1) = ((k : Int) + 1)) ∧ True) (by kernel_rfl) ⟨(wrap_i64 (e := (k : Int) + 1) (by constructor <;> omega)), trivial⟩ ?_)))
    refine A.tn (A.next (k + 1) ⟨(by omega), (by exact anyV_s hn (by assumption) (by unfold badV; simp_all))⟩ (by (simp; omega)) ?_)
    exact A.hK []
  have p2 := of_decide_eq_false e2
  refine A.exit (A.te (A.te (A.bh (tsr (A.g [.p] [0, 1, 7, 8, 9] [(4, i_ (-1))] ?_)))))
  refine A.tn (A.ret (A.post [i_ (-1)] (fun aa ww rr ss => ⟨rv_tmp rr rfl, trivial⟩) (A.back (by kernel_rfl) ?_)))
  refine A.goA [.p, .p] [(4, b_ false)] [] T0 (by kernel_rfl) trivial ?_
  refine A.tn (A.ret (A.post [b_ false] (fun aa ww rr ss => ⟨rv_tmp rr rfl, trivial⟩) (A.back (by kernel_rfl) ?_)))
  refine A.goA [.p] [(12, b_ false)] [] T0 (by kernel_rfl) trivial ?_
  refine A.tn (A.cf (A.skip (A.bn (tsr (A.g [.p] [12] [(4, i_ 0)] ?_)))))
  refine A.tn (A.ret (A.pQ [i_ 0] ?_))
  show ((i_ 0) : Value) = (i_ (mayE t l))
  refine congrArg (Value.int .i64) ?_; unfold mayE; (rw [if_neg (by omega), if_neg (by rw [anyV_f hn (by omega)]; decide)]; done)

theorem times_spec (v t : Int) (hv : 0 ≤ v ∧ v < W128) (ht : 1 ≤ t ∧ t ≤ 65536) (hp : v * t < W128) (w : World) :
    Calls Try.prog 90 #[(.agg #[u_ (nH v), u_ (nL v)]), i_ t] w fun e w' => e = .returned (.agg #[u_ (nH (v * t)), u_ (nL (v * t))]) ∧ Fr [] w w' := by
  have h1_ := nH_rng hv; have h2_ := nL_rng v; have p0 : 0 ≤ v * t := Int.mul_nonneg hv.1 (by omega); have p1 := mul_p (x := nL v) (t := t) (X := 18446744073709551615) (by omega) ht; have p2 := mul_p (x := nH v) (t := t) (X := 18446744073709551615) (by omega) ht
  have e0 : v * t = nH v * t * 18446744073709551616 + nL v * t := (by have e_ : v = nH v * 18446744073709551616 + nL v := (by unfold nH nL; omega); conv => lhs; rw [e_, Int.add_mul, Int.mul_right_comm])
  refine calls_of (args := [(.agg #[u_ (nH v), u_ (nL v)]), i_ t]) (penv [(.agg #[u_ (nH v), u_ (nL v)]), i_ t]) [] [] Try.func90 rfl rfl (look_penv _) (HS.nil w) ?_
  refine A.sr (A.n2 [.al, .al] [0] (fun b1 b2 => [(2, p_ b1), (4, p_ b2)]) (fun b1 b2 => [blk b1 [u_ (nH v), u_ (nL v)] 79, blk b2 [u_ 0, u_ 0] 79]) ?_)
  intro b1 b2
  refine tsr (A.goA1 [.p, .ld 0, .p, .w t, .cq (.agg #[u_ (nH ((nL v) * t)), u_ (nL ((nL v) * t))]), .al, .st 2] [1, 2, 4, 5] (fun b3 => [(1, i_ t), (2, p_ b1), (4, p_ b2), (5, p_ b3)]) (fun b3 => [blk b1 [u_ (nH v), u_ (nL v)] 79, blk b2 [u_ 0, u_ 0] 79, blk b3 [u_ (nH ((nL v) * t)), u_ (nL ((nL v) * t))] 79]) (fun b3 => [b1, b3]) (fun _ => (fun κ => (IntKind.u64.wrap t = t) ∧ κ.call 91 [u_ (nL v), u_ t] (.agg #[u_ (nH ((nL v) * t)), u_ (nL ((nL v) * t))]) ∧ True)) (fun _ => by kernel_rfl) (fun b3 => ⟨(wrap_u64 (e := t) (by constructor <;> omega)), (fun ww ss => wmul_spec (nL v) t (by assumption) (by omega) ww), trivial⟩) ?_)
  intro b3
  refine tsr (A.gsk [.p, .ld 2, .p, .ld 0, .p, .w t, .w ((nH v) * t), .w ((nH ((nL v) * t)) + ((nH v) * t)), .p, .st 2] [1, 2] [] [(2, blk b3 [u_ ((nH ((nL v) * t)) + ((nH v) * t)), u_ (nL ((nL v) * t))] 79)] [b3, b1, b3] (fun κ => (IntKind.u64.wrap t = t) ∧ (IntKind.u64.wrap ((nH v) * t) = ((nH v) * t)) ∧ (IntKind.u64.wrap ((nH ((nL v) * t)) + ((nH v) * t)) = ((nH ((nL v) * t)) + ((nH v) * t))) ∧ True) ⟨(wrap_u64 (e := t) (by constructor <;> omega)), wrap_u64 (e := (nH v) * t) (by unfold W128 at hp; constructor <;> omega), wrap_u64 (e := (nH ((nL v) * t)) + ((nH v) * t)) (by (have q_ : nH (nL v * t) = nL v * t / 18446744073709551616 := rfl); unfold W128 at hp; constructor <;> omega), trivial⟩ ?_)
  refine tsr (A.gs [.ld 2, .st 1] [5] [] [(1, blk b2 [u_ ((nH ((nL v) * t)) + ((nH v) * t)), u_ (nL ((nL v) * t))] 79)] [b3, b2] ?_)
  refine A.tn (A.ret (A.postQ [(.agg #[u_ ((nH ((nL v) * t)) + ((nH v) * t)), u_ (nL ((nL v) * t))])] (fun aa ww rr ss => ⟨rv_cellN (vs := [u_ ((nH ((nL v) * t)) + ((nH v) * t)), u_ (nL ((nL v) * t))]) rr ss rfl (by kernel_rfl) (reads_blk (i := 1) rfl rfl), trivial⟩) ?_))
  show ((.agg #[u_ ((nH ((nL v) * t)) + ((nH v) * t)), u_ (nL ((nL v) * t))]) : Value) = (.agg #[u_ (nH (v * t)), u_ (nL (v * t))])
  have q1_ : nL (nL v * t) = nL (v * t) := (by unfold nL at *; omega); have q2_ : nH (nL v * t) + nH v * t = nH (v * t) := (by unfold nH at *; omega); rw [q1_, q2_]

theorem above_spec (v t k : Int) (hv : 0 ≤ v ∧ v < W128) (ht : 1 ≤ t ∧ t ≤ 65536) (hp : v * t < W128) (hk : 0 ≤ k ∧ k < 18446744073709551616) (w : World) :
    Calls Try.prog 44 #[(.agg #[u_ (nH v), u_ (nL v)]), i_ t, u_ k] w fun e w' => e = .returned (b_ (decide (v * t > 65536 * k))) ∧ Fr [] w w' := by
  have p0 : 0 ≤ v * t := Int.mul_nonneg hv.1 (by omega)
  refine calls_of (args := [(.agg #[u_ (nH v), u_ (nL v)]), i_ t, u_ k]) (penv [(.agg #[u_ (nH v), u_ (nL v)]), i_ t, u_ k]) [] [] Try.func44 rfl rfl (look_penv _) (HS.nil w) ?_
  refine A.sr (A.n1 [.al, .p] [0] (fun b1 => [(3, p_ b1)]) (fun b1 => blk b1 [u_ (nH v), u_ (nL v)] 79) ?_)
  intro b1
  refine tsr (A.gk [.ld 0, .p, .cq (.agg #[u_ (nH (v * t)), u_ (nL (v * t))]), .p, .cq (.agg #[u_ (nH (65536 * k)), u_ (nL (65536 * k))]), .cq (i_ (cmpI (v * t) (65536 * k))), .p, .p] [1, 2, 3] [(6, b_ (decide ((cmpI (v * t) (65536 * k)) > 0)))] [b1] (fun κ => κ.call 90 [(.agg #[u_ (nH v), u_ (nL v)]), i_ t] (.agg #[u_ (nH (v * t)), u_ (nL (v * t))]) ∧ κ.call 91 [u_ 65536, u_ k] (.agg #[u_ (nH (65536 * k)), u_ (nL (65536 * k))]) ∧ κ.call 89 [(.agg #[u_ (nH (v * t)), u_ (nL (v * t))]), (.agg #[u_ (nH (65536 * k)), u_ (nL (65536 * k))])] (i_ (cmpI (v * t) (65536 * k))) ∧ True) ⟨(fun ww ss => times_spec v t (by assumption) (by assumption) (by assumption) ww), (fun ww ss => wmul_spec 65536 k (by omega) (by assumption) ww), (fun ww ss => wcmp_spec (v * t) (65536 * k) (by omega) (by (unfold W128; omega)) ww), trivial⟩ ?_)
  refine A.tn (A.ret (A.pQ [b_ (decide ((cmpI (v * t) (65536 * k)) > 0))] ?_))
  show ((b_ (decide ((cmpI (v * t) (65536 * k)) > 0))) : Value) = (b_ (decide (v * t > 65536 * k)))
  refine congrArg Value.bool ?_; rw [Bool.eq_iff_iff]; simp only [decide_eq_true_eq]; unfold cmpI; split <;> (try split) <;> omega

theorem rtimes_spec (v t : Int) (hv : 0 ≤ v ∧ v < W128) (ht : 1 ≤ t ∧ t ≤ 65536) (hp : v * t < W128) (w : World) :
    Calls Try.prog 52 #[(.agg #[u_ (dA v), u_ (dB v), u_ (dC v), u_ (dD v)]), i_ t] w fun e w' => e = .returned (.agg #[u_ (dA (v * t)), u_ (dB (v * t)), u_ (dC (v * t)), u_ (dD (v * t))]) ∧ Fr [] w w' := by
  have h1_ := nH_rng hv; have h2_ := nL_rng v; have p0 : 0 ≤ v * t := Int.mul_nonneg hv.1 (by omega); have p1 := mul_p (x := nL v) (t := t) (X := 18446744073709551615) (by omega) ht; have p2 := mul_p (x := nH v) (t := t) (X := 18446744073709551615) (by omega) ht
  have e0 : v * t = nH v * t * 18446744073709551616 + nL v * t := (by have e_ : v = nH v * 18446744073709551616 + nL v := (by unfold nH nL; omega); conv => lhs; rw [e_, Int.add_mul, Int.mul_right_comm])
  have h3_ := nL_rng (nH v * t)
  refine calls_of (args := [(.agg #[u_ (dA v), u_ (dB v), u_ (dC v), u_ (dD v)]), i_ t]) (penv [(.agg #[u_ (dA v), u_ (dB v), u_ (dC v), u_ (dD v)]), i_ t]) [] [] Try.func52 rfl rfl (look_penv _) (HS.nil w) ?_
  refine A.sr (A.n2 [.al, .al] [0] (fun b1 b2 => [(2, p_ b1), (4, p_ b2)]) (fun b1 b2 => [blk b1 [u_ (dA v), u_ (dB v), u_ (dC v), u_ (dD v)] 36, blk b2 [u_ 0, u_ 0, u_ 0, u_ 0] 36]) ?_)
  intro b1 b2
  refine tsr (A.goA1 [.ld 0, .cq (u_ (nL v)), .p, .w t, .cq (.agg #[u_ (dA ((nL v) * t)), u_ (dB ((nL v) * t)), u_ (dC ((nL v) * t)), u_ (dD ((nL v) * t))]), .al, .st 2] [1, 2, 4, 5] (fun b3 => [(1, i_ t), (2, p_ b1), (4, p_ b2), (5, p_ b3)]) (fun b3 => [blk b1 [u_ (dA v), u_ (dB v), u_ (dC v), u_ (dD v)] 36, blk b2 [u_ 0, u_ 0, u_ 0, u_ 0] 36, blk b3 [u_ (dA ((nL v) * t)), u_ (dB ((nL v) * t)), u_ (dC ((nL v) * t)), u_ (dD ((nL v) * t))] 36]) (fun b3 => [b1, b3]) (fun _ => (fun κ => κ.call 99 [(.agg #[u_ (dA v), u_ (dB v), u_ (dC v), u_ (dD v)])] (u_ (nL v)) ∧ (IntKind.u64.wrap t = t) ∧ κ.call 51 [u_ (nL v), u_ t] (.agg #[u_ (dA ((nL v) * t)), u_ (dB ((nL v) * t)), u_ (dC ((nL v) * t)), u_ (dD ((nL v) * t))]) ∧ True)) (fun _ => by kernel_rfl) (fun b3 => ⟨(fun ww ss => rLo_spec v (by assumption) ww), wrap_u64 (e := t) (by constructor <;> omega), (fun ww ss => rMul_spec (nL v) t (by assumption) (by omega) ww), trivial⟩) ?_)
  intro b3
  refine tsr (A.goA1 [.ld 0, .cq (u_ (nH v)), .p, .w t, .cq (.agg #[u_ (dA ((nH v) * t)), u_ (dB ((nH v) * t)), u_ (dC ((nH v) * t)), u_ (dD ((nH v) * t))]), .al, .st 3] [4, 5, 6] (fun b4 => [(4, p_ b2), (5, p_ b3), (6, p_ b4)]) (fun b4 => [blk b1 [u_ (dA v), u_ (dB v), u_ (dC v), u_ (dD v)] 36, blk b2 [u_ 0, u_ 0, u_ 0, u_ 0] 36, blk b3 [u_ (dA ((nL v) * t)), u_ (dB ((nL v) * t)), u_ (dC ((nL v) * t)), u_ (dD ((nL v) * t))] 36, blk b4 [u_ (dA ((nH v) * t)), u_ (dB ((nH v) * t)), u_ (dC ((nH v) * t)), u_ (dD ((nH v) * t))] 36]) (fun b4 => [b1, b4]) (fun _ => (fun κ => κ.call 100 [(.agg #[u_ (dA v), u_ (dB v), u_ (dC v), u_ (dD v)])] (u_ (nH v)) ∧ (IntKind.u64.wrap t = t) ∧ κ.call 51 [u_ (nH v), u_ t] (.agg #[u_ (dA ((nH v) * t)), u_ (dB ((nH v) * t)), u_ (dC ((nH v) * t)), u_ (dD ((nH v) * t))]) ∧ True)) (fun _ => by kernel_rfl) (fun b4 => ⟨(fun ww ss => rHi_spec v (by assumption) ww), wrap_u64 (e := t) (by constructor <;> omega), (fun ww ss => rMul_spec (nH v) t (by assumption) (by omega) ww), trivial⟩) ?_)
  intro b4
  refine A.tn (A.seq (A.draw2 [5] 6 (by kernel_rfl) ?_))
  refine A.dP 1 [.ld 2, .ld 3, .cq (u_ (nL ((nH v) * t))), .cq (.agg #[u_ (dA ((nL ((nH v) * t)) * 18446744073709551616 + 0)), u_ (dB ((nL ((nH v) * t)) * 18446744073709551616 + 0)), u_ (dC ((nL ((nH v) * t)) * 18446744073709551616 + 0)), u_ (dD ((nL ((nH v) * t)) * 18446744073709551616 + 0))]), .cq (.agg #[u_ (dA ((((nL v) * t) + ((nL ((nH v) * t)) * 18446744073709551616 + 0)) % 340282366920938463463374607431768211456)), u_ (dB ((((nL v) * t) + ((nL ((nH v) * t)) * 18446744073709551616 + 0)) % 340282366920938463463374607431768211456)), u_ (dC ((((nL v) * t) + ((nL ((nH v) * t)) * 18446744073709551616 + 0)) % 340282366920938463463374607431768211456)), u_ (dD ((((nL v) * t) + ((nL ((nH v) * t)) * 18446744073709551616 + 0)) % 340282366920938463463374607431768211456))])] [0, 1, 2, 3, 4] [5, 6] [(21, (.agg #[u_ (dA ((((nL v) * t) + ((nL ((nH v) * t)) * 18446744073709551616 + 0)) % 340282366920938463463374607431768211456)), u_ (dB ((((nL v) * t) + ((nL ((nH v) * t)) * 18446744073709551616 + 0)) % 340282366920938463463374607431768211456)), u_ (dC ((((nL v) * t) + ((nL ((nH v) * t)) * 18446744073709551616 + 0)) % 340282366920938463463374607431768211456)), u_ (dD ((((nL v) * t) + ((nL ((nH v) * t)) * 18446744073709551616 + 0)) % 340282366920938463463374607431768211456))]))] [b3, b4] (fun κ => κ.call 99 [(.agg #[u_ (dA ((nH v) * t)), u_ (dB ((nH v) * t)), u_ (dC ((nH v) * t)), u_ (dD ((nH v) * t))])] (u_ (nL ((nH v) * t))) ∧ κ.call 101 [u_ (nL ((nH v) * t)), u_ 0] (.agg #[u_ (dA ((nL ((nH v) * t)) * 18446744073709551616 + 0)), u_ (dB ((nL ((nH v) * t)) * 18446744073709551616 + 0)), u_ (dC ((nL ((nH v) * t)) * 18446744073709551616 + 0)), u_ (dD ((nL ((nH v) * t)) * 18446744073709551616 + 0))]) ∧ κ.call 53 [(.agg #[u_ (dA ((nL v) * t)), u_ (dB ((nL v) * t)), u_ (dC ((nL v) * t)), u_ (dD ((nL v) * t))]), (.agg #[u_ (dA ((nL ((nH v) * t)) * 18446744073709551616 + 0)), u_ (dB ((nL ((nH v) * t)) * 18446744073709551616 + 0)), u_ (dC ((nL ((nH v) * t)) * 18446744073709551616 + 0)), u_ (dD ((nL ((nH v) * t)) * 18446744073709551616 + 0))])] (.agg #[u_ (dA ((((nL v) * t) + ((nL ((nH v) * t)) * 18446744073709551616 + 0)) % 340282366920938463463374607431768211456)), u_ (dB ((((nL v) * t) + ((nL ((nH v) * t)) * 18446744073709551616 + 0)) % 340282366920938463463374607431768211456)), u_ (dC ((((nL v) * t) + ((nL ((nH v) * t)) * 18446744073709551616 + 0)) % 340282366920938463463374607431768211456)), u_ (dD ((((nL v) * t) + ((nL ((nH v) * t)) * 18446744073709551616 + 0)) % 340282366920938463463374607431768211456))]) ∧ True) ⟨(fun ww ss => rLo_spec ((nH v) * t) (by omega) ww), (fun ww ss => rTwo_spec (nL ((nH v) * t)) 0 (by assumption) (by omega) ww), (fun ww ss => rPlus_spec ((nL v) * t) ((nL ((nH v) * t)) * 18446744073709551616 + 0) (by omega) (by (unfold W128; omega)) ww), trivial⟩ ?_
  refine A.only2 5 rfl (by kernel_rfl) (A.store 1 (vs := [u_ (dA ((((nL v) * t) + ((nL ((nH v) * t)) * 18446744073709551616 + 0)) % 340282366920938463463374607431768211456)), u_ (dB ((((nL v) * t) + ((nL ((nH v) * t)) * 18446744073709551616 + 0)) % 340282366920938463463374607431768211456)), u_ (dC ((((nL v) * t) + ((nL ((nH v) * t)) * 18446744073709551616 + 0)) % 340282366920938463463374607431768211456)), u_ (dD ((((nL v) * t) + ((nL ((nH v) * t)) * 18446744073709551616 + 0)) % 340282366920938463463374607431768211456))]) [blk b1 [u_ (dA v), u_ (dB v), u_ (dC v), u_ (dD v)] 36, blk b2 [u_ (dA ((((nL v) * t) + ((nL ((nH v) * t)) * 18446744073709551616 + 0)) % 340282366920938463463374607431768211456)), u_ (dB ((((nL v) * t) + ((nL ((nH v) * t)) * 18446744073709551616 + 0)) % 340282366920938463463374607431768211456)), u_ (dC ((((nL v) * t) + ((nL ((nH v) * t)) * 18446744073709551616 + 0)) % 340282366920938463463374607431768211456)), u_ (dD ((((nL v) * t) + ((nL ((nH v) * t)) * 18446744073709551616 + 0)) % 340282366920938463463374607431768211456))] 36, blk b3 [u_ (dA ((nL v) * t)), u_ (dB ((nL v) * t)), u_ (dC ((nL v) * t)), u_ (dD ((nL v) * t))] 36, blk b4 [u_ (dA ((nH v) * t)), u_ (dB ((nH v) * t)), u_ (dC ((nH v) * t)), u_ (dD ((nH v) * t))] 36] (by kernel_rfl) rfl rfl rfl rfl (by kernel_rfl) rfl rfl (by kernel_rfl) rfl ?_)
  refine A.stage ?_
  refine A.fin2 (by kernel_rfl) ?_
  refine A.tn (A.ret (A.postQ [(.agg #[u_ (dA ((((nL v) * t) + ((nL ((nH v) * t)) * 18446744073709551616 + 0)) % 340282366920938463463374607431768211456)), u_ (dB ((((nL v) * t) + ((nL ((nH v) * t)) * 18446744073709551616 + 0)) % 340282366920938463463374607431768211456)), u_ (dC ((((nL v) * t) + ((nL ((nH v) * t)) * 18446744073709551616 + 0)) % 340282366920938463463374607431768211456)), u_ (dD ((((nL v) * t) + ((nL ((nH v) * t)) * 18446744073709551616 + 0)) % 340282366920938463463374607431768211456))])] (fun aa ww rr ss => ⟨rv_cellN (vs := [u_ (dA ((((nL v) * t) + ((nL ((nH v) * t)) * 18446744073709551616 + 0)) % 340282366920938463463374607431768211456)), u_ (dB ((((nL v) * t) + ((nL ((nH v) * t)) * 18446744073709551616 + 0)) % 340282366920938463463374607431768211456)), u_ (dC ((((nL v) * t) + ((nL ((nH v) * t)) * 18446744073709551616 + 0)) % 340282366920938463463374607431768211456)), u_ (dD ((((nL v) * t) + ((nL ((nH v) * t)) * 18446744073709551616 + 0)) % 340282366920938463463374607431768211456))]) rr ss rfl (by kernel_rfl) (reads_blk (i := 1) rfl rfl), trivial⟩) ?_))
  show ((.agg #[u_ (dA ((((nL v) * t) + ((nL ((nH v) * t)) * 18446744073709551616 + 0)) % 340282366920938463463374607431768211456)), u_ (dB ((((nL v) * t) + ((nL ((nH v) * t)) * 18446744073709551616 + 0)) % 340282366920938463463374607431768211456)), u_ (dC ((((nL v) * t) + ((nL ((nH v) * t)) * 18446744073709551616 + 0)) % 340282366920938463463374607431768211456)), u_ (dD ((((nL v) * t) + ((nL ((nH v) * t)) * 18446744073709551616 + 0)) % 340282366920938463463374607431768211456))]) : Value) = (.agg #[u_ (dA (v * t)), u_ (dB (v * t)), u_ (dC (v * t)), u_ (dD (v * t))])
  have q_ : (nL v * t + (nL (nH v * t) * 18446744073709551616 + 0)) % 340282366920938463463374607431768211456 = v * t := (by unfold W128 at hp; unfold nL at *; unfold nH at *; omega); rw [q_]

theorem carries_spec (v t k : Int) (hv : 0 ≤ v ∧ v < W128) (ht : 1 ≤ t ∧ t ≤ 65536) (hp : v * t < W128) (hk : 0 ≤ k ∧ k < 18446744073709551616) (w : World) :
    Calls Try.prog 16 #[(.agg #[u_ (dA v), u_ (dB v), u_ (dC v), u_ (dD v)]), i_ t, u_ k] w fun e w' => e = .returned (b_ (decide (v * t ≤ 65536 * k))) ∧ Fr [] w w' := by
  have p0 : 0 ≤ v * t := Int.mul_nonneg hv.1 (by omega)
  refine calls_of (args := [(.agg #[u_ (dA v), u_ (dB v), u_ (dC v), u_ (dD v)]), i_ t, u_ k]) (penv [(.agg #[u_ (dA v), u_ (dB v), u_ (dC v), u_ (dD v)]), i_ t, u_ k]) [] [] Try.func16 rfl rfl (look_penv _) (HS.nil w) ?_
  refine A.sr (A.n1 [.al, .p] [0] (fun b1 => [(3, p_ b1)]) (fun b1 => blk b1 [u_ (dA v), u_ (dB v), u_ (dC v), u_ (dD v)] 36) ?_)
  intro b1
  refine A.tn (A.seq (A.dA [.p, .cq (.agg #[u_ (dA (65536 * k)), u_ (dB (65536 * k)), u_ (dC (65536 * k)), u_ (dD (65536 * k))]), .ld 0, .p, .cq (.agg #[u_ (dA (v * t)), u_ (dB (v * t)), u_ (dC (v * t)), u_ (dD (v * t))]), .cq (b_ (decide ((65536 * k) < (v * t)))), .p, .p] [0, 1, 2, 3, 4, 5, 6, 7] [1, 2, 3] [(6, b_ (!(decide ((65536 * k) < (v * t)))))] [b1] (fun κ => κ.call 51 [u_ 65536, u_ k] (.agg #[u_ (dA (65536 * k)), u_ (dB (65536 * k)), u_ (dC (65536 * k)), u_ (dD (65536 * k))]) ∧ κ.call 52 [(.agg #[u_ (dA v), u_ (dB v), u_ (dC v), u_ (dD v)]), i_ t] (.agg #[u_ (dA (v * t)), u_ (dB (v * t)), u_ (dC (v * t)), u_ (dD (v * t))]) ∧ κ.call 50 [(.agg #[u_ (dA (65536 * k)), u_ (dB (65536 * k)), u_ (dC (65536 * k)), u_ (dD (65536 * k))]), (.agg #[u_ (dA (v * t)), u_ (dB (v * t)), u_ (dC (v * t)), u_ (dD (v * t))])] (b_ (decide ((65536 * k) < (v * t)))) ∧ True) ⟨(fun ww ss => rMul_spec 65536 k (by omega) (by assumption) ww), (fun ww ss => rtimes_spec v t (by assumption) (by assumption) (by assumption) ww), (fun ww ss => rLess_spec (65536 * k) (v * t) (by (unfold W128; omega)) (by omega) ww), trivial⟩ ?_))
  refine A.tn (A.ret (A.pQ [b_ (!(decide ((65536 * k) < (v * t))))] ?_))
  show ((b_ (!(decide ((65536 * k) < (v * t))))) : Value) = (b_ (decide (v * t ≤ 65536 * k)))
  refine congrArg Value.bool ?_; rw [Bool.eq_iff_iff]; simp

theorem rmay_spec (t : Int) (al : Option Addr) (l : List Cv) (cl : Nat) (hl : l.length ≤ 1000) (hR : ∀ v ∈ l, CvOk v) (w : World) (r0 : arrAt w al (V.flat encCv l)) :
    Calls Try.prog 47 #[i_ t, vS al l cl] w fun e w' => e = .returned (i_ (mayE t l)) ∧ Fr [] w w' := by
  refine calls_of (args := [i_ t, vS al l cl]) (penv [i_ t, vS al l cl]) [] [] Try.func47 rfl rfl (look_penv _) (HS.nil w) ?_
  refine A.sr (A.g [.p] [] [] ?_)
  refine A.tn (A.seq (A.sr (A.g [.p, .p, .p, .o, .p, .p, .cl] [0] [(12, b_ ((decide (t < 1)) || (decide (t > 65536))))] ?_)))
  refine A.tn (A.cn ((decide (t < 1)) || (decide (t > 65536))) (fun e1 => ?_) (fun e1 => ?_))
  · have p1 := e1; try simp only [nrm] at p1
    refine A.sr (A.g [.p] [1, 12] [(4, i_ 1)] ?_)
    refine A.tn (A.ret (A.tr (A.pQ [i_ 1] ?_)))
    show ((i_ 1) : Value) = (i_ (mayE t l))
    refine congrArg (Value.int .i64) ?_; unfold mayE; (rw [if_pos (by omega)]; done)
  have p1 := e1; try simp only [nrm] at p1
  refine A.skip (A.tn (A.seq (A.sr (A.g [.p, .p, .p] [1, 12] [(13, vS al l cl), (14, c_ l.length), (15, i_ 0)] ?_))))
  refine A.tn (A.block (A.loop (fun (zz : Nat) => match zz with | k => [(13, vS al l cl), (14, c_ l.length), (15, c_ k)]) (fun (zz : Nat) => match zz with | k => []) (fun (zz : Nat) => match zz with | k => (k ≤ l.length) ∧ (∀ x ∈ l.take k, badV x = false)) (fun (zz : Nat) => match zz with | k => l.length - k) (0 : Nat) ⟨(by omega), (by simp)⟩ ?_ ?_))
  · exact A.hK []
  rintro k ⟨hk, hn⟩
  refine A.sr (A.g [.p] [] [(16, b_ (decide ((k : Int) < (l.length : Int))))] ?_)
  refine A.tn (A.seq (A.cn (decide ((k : Int) < (l.length : Int))) (fun e2 => ?_) (fun e2 => ?_)))
  · have p2 := of_decide_eq_true e2
    refine A.skip (A.tn (A.seq (A.block (A.sr (A.gpk [.ix] [16] [(17, (.pointer (some ((at0 al).add (k * 3)))))] [] (fun κ => κ.ix al l.length (k : Int) ∧ True) ⟨(ixOf encCv_len (by decide) (rd_old r0 (by simp [feet])) (by omega)), trivial⟩ ?_)))))
    obtain ⟨x1, hx1⟩ : ∃ x, (l)[k]? = some x := ⟨_, List.getElem?_eq_getElem (by omega)⟩
    refine A.goA1 [.rd (encCv x1), .al, .st 0] [13, 14, 15, 6] (fun b2 => [(13, vS al l cl), (14, c_ l.length), (15, c_ k), (6, p_ b2)]) (fun b2 => [blk b2 (encCv x1) 43]) (fun b2 => [b2]) (fun _ => (fun κ => κ.rd ((at0 al).add (k * 3)) (encCv x1) ∧ True)) (fun _ => by kernel_rfl) (fun b2 => ⟨(reads_at0 (vs := (encCv x1)) encCv_len (rd_old r0 (by simp [feet])) hx1 (Nat.le_of_ble_eq_true rfl) rfl), trivial⟩) ?_
    intro b2
    refine tsr (A.gk [.ld 0, .cq (i_ (ofR x1.ka x1.kb x1.kc)), .p] [6] [(21, b_ ((ofR x1.ka x1.kb x1.kc) == 0))] [b2] (fun κ => κ.call 97 [(.agg (encCv x1).toArray)] (i_ (ofR x1.ka x1.kb x1.kc)) ∧ True) ⟨(fun ww ss => rof_spec x1.ka x1.kb x1.kc ww), trivial⟩ ?_)
    refine A.tn (A.cn ((ofR x1.ka x1.kb x1.kc) == 0) (fun e3 => ?_) (fun e3 => ?_))
    · have p3 := e3; try simp only [nrm] at p3
      refine A.sr (A.g [.p] [13, 14, 15, 21] [(4, i_ 21)] ?_)
      refine A.tn (A.ret (A.br (A.tr (A.tr (A.br (A.tr (A.pQ [i_ 21] ?_)))))))
      show ((i_ 21) : Value) = (i_ (mayE t l))
      refine congrArg (Value.int .i64) ?_; unfold mayE; (rw [if_neg (by omega), if_pos (anyV_t (by assumption) (by obtain ⟨q1_, q2_, q3_⟩ := cv_nn (hR _ (List.mem_of_getElem? (by assumption))); unfold badV; rw [ofC_ofR q1_.1 q2_.1 q3_.1]; simp_all))]; done)
    have p3 := e3; try simp only [nrm] at p3
    refine A.skip (A.bn (tr (A.gk [.w ((k : Int) + 1), .p] [21] [(15, i_ ((k : Int) + 1))] [] (fun κ => (IntKind.i64.wrap ((k : Int) + 1) = ((k : Int) + 1)) ∧ True) ⟨(wrap_i64 (e := (k : Int) + 1) (by constructor <;> omega)), trivial⟩ ?_)))
    refine A.tn (A.next (k + 1) ⟨(by omega), (by (obtain ⟨q1_, q2_, q3_⟩ := cv_nn (hR _ (List.mem_of_getElem? (by assumption))); exact anyV_s hn (by assumption) (by unfold badV; rw [ofC_ofR q1_.1 q2_.1 q3_.1]; simp_all)))⟩ (by (simp; omega)) ?_)
    exact A.hK []
  have p2 := of_decide_eq_false e2
  refine A.exit (A.te (A.te (A.bh (tsr (A.g [.p] [13, 14, 15, 16] [(4, i_ 0)] ?_)))))
  refine A.tn (A.ret (A.pQ [i_ 0] ?_))
  show ((i_ 0) : Value) = (i_ (mayE t l))
  refine congrArg (Value.int .i64) ?_; unfold mayE; (rw [if_neg (by omega), if_neg (by rw [anyV_f hn (by omega)]; decide)]; done)
end Go.Proofs.Ytinnnoimmioaiaa
