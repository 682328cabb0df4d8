/- What the functions of this layer do, proved operation by operation, for all arguments, under the conditions that each theorem states. -/
import Derived.Test.YtinnnoimmioaiaaProg
import Derived.Test.YtinnnoimmioaiaaCurve2
import Derived.Test.YtinnnoimmioaiaaL2
namespace Go.Proofs.Ytinnnoimmioaiaa
open Go V
set_option linter.unusedVariables false
set_option linter.unusedSimpArgs false
set_option maxHeartbeats 4000000
set_option maxRecDepth 100000
def CvOk (x : Cv) : Prop := (0 ≤ x.ka ∧ x.ka ≤ 18446744073709551615) ∧ (0 ≤ x.kb ∧ x.kb ≤ 18446744073709551615) ∧ (0 ≤ x.kc ∧ x.kc ≤ 18446744073709551615)
def ksCv : List FK := [.int .u64, .int .u64, .int .u64]
theorem openCv (cs : List Value) (h : FitsL ksCv cs) : ∃ x, cs = encCv x ∧ CvOk x := by
  unfold ksCv at h
  obtain ⟨v0, cs0, rfl, h0, g0⟩ := fitsL_cons h
  obtain ⟨a0, rfl, r0⟩ := fit_u64 h0
  obtain ⟨v1, cs1, rfl, h1, g1⟩ := fitsL_cons g0
  obtain ⟨a1, rfl, r1⟩ := fit_u64 h1
  obtain ⟨v2, cs2, rfl, h2, g2⟩ := fitsL_cons g1
  obtain ⟨a2, rfl, r2⟩ := fit_u64 h2
  obtain rfl := fitsL_nil g2
  exact ⟨⟨a0, a1, a2⟩, rfl, r0, r1, r2⟩
theorem take_snoc {α : Type} {l : List α} {k : Nat} {x : α} (hx : l[k]? = some x) : l.take (k + 1) = l.take k ++ [x] := by rw [List.take_add_one, hx]; rfl
def svV (t : Int) (v : Cv) : Int := sv v.ka v.kb v.kc t
def svs (l : List Cv) (t : Int) : Int := (l.map (svV t)).sum
theorem svs_snoc (l : List Cv) (x : Cv) (t : Int) : svs (l ++ [x]) t = svs l t + svV t x := by unfold svs; simp [List.sum_append]
def slV (st : Bool) (v : Cv) : Int := if ofC v.ka v.kb v.kc = 0 then 0 else if st && decide (v.ka > v.kc) then v.ka else v.kc
def slps (st : Bool) (l : List Cv) : Int := (l.map (slV st)).sum
theorem slps_snoc (st : Bool) (l : List Cv) (x : Cv) : slps st (l ++ [x]) = slps st l + slV st x := by unfold slps; simp [List.sum_append]
theorem cv_nn {v : Cv} (h : CvOk v) : (0 ≤ v.ka ∧ v.ka < 18446744073709551616) ∧ (0 ≤ v.kb ∧ v.kb < 18446744073709551616) ∧ 0 ≤ v.kc ∧ v.kc < 18446744073709551616 := by unfold CvOk at h; omega
theorem sum_b {f : Cv → Int} {C : Int} : ∀ {l : List Cv}, (∀ v ∈ l, 0 ≤ f v ∧ f v ≤ C) → 0 ≤ (l.map f).sum ∧ (l.map f).sum ≤ l.length * C
  | [], _ => by simp
  | v :: l, h => by
    have h1 := h v (by simp); have h2 := sum_b (l := l) fun x hx => h x (by simp [hx])
    simp only [List.map_cons, List.sum_cons, List.length_cons]; rw [Int.natCast_add, Int.add_mul]; omega
theorem svs_rng {l : List Cv} {t : Int} (h : ∀ v ∈ l, CvOk v) (ht : 0 ≤ t ∧ t < 18446744073709551616) (hl : l.length ≤ 1000) : 0 ≤ svs l t ∧ svs l t ≤ 79228162495822097115165753345000 := by
  obtain ⟨h1, h2⟩ := sum_b (f := svV t) (C := 79228162495822097115165753345) (l := l) fun v hv => by obtain ⟨q1, q2, q3⟩ := cv_nn (h v hv); exact sv_rng q1.1 q2.1 q3.1 ht
  unfold svs; omega
theorem slV_rng {st : Bool} {v : Cv} (h : CvOk v) : 0 ≤ slV st v ∧ slV st v ≤ 4294967295 := by
  obtain ⟨q1, q2, q3⟩ := cv_nn h
  unfold slV; split
  · omega
  · have := ofC_max q1.1 q2.1 q3.1 (by assumption); split <;> omega
theorem slps_rng {st : Bool} {l : List Cv} (h : ∀ v ∈ l, CvOk v) (hl : l.length ≤ 1000) : 0 ≤ slps st l ∧ slps st l ≤ 4294967295000 := by
  obtain ⟨h1, h2⟩ := sum_b (f := slV st) (C := 4294967295) (l := l) fun v hv => slV_rng (h v hv)
  unfold slps; omega
theorem slV_0 {st : Bool} {v : Cv} (h : ofC v.ka v.kb v.kc = 0) : slV st v = 0 := by unfold slV; rw [if_pos h]
theorem slV_f {v : Cv} (h : ¬ ofC v.ka v.kb v.kc = 0) : slV false v = v.kc := by unfold slV; rw [if_neg h]; rfl
theorem slV_t {v : Cv} (h : ¬ ofC v.ka v.kb v.kc = 0) : slV true v = imax v.ka v.kc := by
  unfold slV imax; rw [if_neg h]; simp only [Bool.true_and, decide_eq_true_eq]; split <;> split <;> omega
theorem slV_s {st : Bool} {v : Cv} (h : ¬ ofC v.ka v.kb v.kc = 0) : slV st v = if st && decide (v.ka > v.kc) then v.ka else v.kc := by unfold slV; rw [if_neg h]
theorem take_ok {l : List Cv} (h : ∀ v ∈ l, CvOk v) (k : Nat) : ∀ v ∈ l.take k, CvOk v := fun v hv => h v (List.mem_of_mem_take hv)

theorem csv1_spec (a b c t : Int) (bt : Nat) (ha : 0 ≤ a ∧ a < 18446744073709551616) (hb : 0 ≤ b ∧ b < 18446744073709551616) (hc : 0 ≤ c ∧ c < 18446744073709551616) (ht : 0 ≤ t ∧ t < 18446744073709551616) (w : World) (r0 : (blk bt [u_ t] 24).holds w) :
    Calls Try.prog 93 #[(.agg #[u_ a, u_ b, u_ c]), p_ bt] w fun e w' => e = .returned (.agg #[u_ (nH (sv a b c t)), u_ (nL (sv a b c t))]) ∧ Fr [] w w' := by
  refine calls_of (args := [(.agg #[u_ a, u_ b, u_ c]), p_ bt]) (penv [(.agg #[u_ a, u_ b, u_ c]), p_ bt]) [] [] Try.func93 rfl rfl (look_penv _) (HS.nil w) ?_
  refine A.sr (A.n2 [.al, .al] [0] (fun b1 b2 => [(2, p_ b1), (3, p_ b2)]) (fun b1 b2 => [blk b1 [u_ a, u_ b, u_ c] 43, blk b2 [u_ 0, u_ 0] 79]) ?_)
  intro b1 b2
  refine tsr (A.gsk [.ld 0, .rd [u_ t], .cq (.agg #[u_ (nH (sv a b c t)), u_ (nL (sv a b c t))]), .st 1] [1, 2] [] [(1, blk b2 [u_ (nH (sv a b c t)), u_ (nL (sv a b c t))] 79)] [b1, b2] (fun κ => κ.rd ⟨bt, 0, none⟩ [u_ t] ∧ κ.call 94 [(.agg #[u_ a, u_ b, u_ c]), u_ t] (.agg #[u_ (nH (sv a b c t)), u_ (nL (sv a b c t))]) ∧ True) ⟨(reads_oldblk r0 rfl), (fun ww ss => csv_spec a b c t (by assumption) (by assumption) (by assumption) (by assumption) ww), trivial⟩ ?_)
  refine A.tn (A.ret (A.postQ [(.agg #[u_ (nH (sv a b c t)), u_ (nL (sv a b c t))])] (fun aa ww rr ss => ⟨rv_cellN (vs := [u_ (nH (sv a b c t)), u_ (nL (sv a b c t))]) rr ss rfl (by kernel_rfl) (reads_blk (i := 1) rfl rfl), trivial⟩) ?_))
  rfl

theorem cs11_spec (a b c : Int) (ha : 0 ≤ a ∧ a < 18446744073709551616) (hb : 0 ≤ b ∧ b < 18446744073709551616) (hc : 0 ≤ c ∧ c < 18446744073709551616) (w : World) :
    Calls Try.prog 95 #[(.agg #[u_ a, u_ b, u_ c])] w fun e w' => e = .returned (.agg #[u_ (nH c), u_ (nL c)]) ∧ Fr [] w w' := by
  refine calls_of (args := [(.agg #[u_ a, u_ b, u_ c])]) (penv [(.agg #[u_ a, u_ b, u_ c])]) [] [] Try.func95 rfl rfl (look_penv _) (HS.nil w) ?_
  refine A.sr (A.n2 [.al, .al] [0] (fun b1 b2 => [(1, p_ b1), (2, p_ b2)]) (fun b1 b2 => [blk b1 [u_ a, u_ b, u_ c] 43, blk b2 [u_ 0, u_ 0] 79]) ?_)
  intro b1 b2
  refine tsr (A.gsk [.p, .ld 0, .cq (.agg #[u_ (nH c), u_ (nL c)]), .st 1] [1] [] [(1, blk b2 [u_ (nH c), u_ (nL c)] 79)] [b1, b2] (fun κ => κ.call 96 [u_ c] (.agg #[u_ (nH c), u_ (nL c)]) ∧ True) ⟨(fun ww ss => wof_spec c (by assumption) ww), trivial⟩ ?_)
  refine A.tn (A.ret (A.postQ [(.agg #[u_ (nH c), u_ (nL c)])] (fun aa ww rr ss => ⟨rv_cellN (vs := [u_ (nH c), u_ (nL c)]) rr ss rfl (by kernel_rfl) (reads_blk (i := 1) rfl rfl), trivial⟩) ?_))
  rfl

theorem ssv_spec (al : Option Addr) (l : List Cv) (cl : Nat) (t : Int) (hl : l.length ≤ 1000) (hR : ∀ v ∈ l, CvOk v) (ht : 0 ≤ t ∧ t < 18446744073709551616) (w : World) (r0 : arrAt w al (V.flat encCv l)) :
    Calls Try.prog 45 #[vS al l cl, u_ t] w fun e w' => e = .returned (.agg #[u_ (nH (svs l t)), u_ (nL (svs l t))]) ∧ Fr [] w w' := by
  refine calls_of (args := [vS al l cl, u_ t]) (penv [vS al l cl, u_ t]) [] [] Try.func45 rfl rfl (look_penv _) (HS.nil w) ?_
  refine A.sr (A.n2 [.al, .al] [1] (fun b1 b2 => [(3, p_ b1), (4, p_ b2)]) (fun b1 b2 => [blk b1 [u_ t] 24, blk b2 [u_ 0, u_ 0] 79]) ?_)
  intro b1 b2
  refine tsr (A.gp [.p, .p] [0, 3] [(5, vS al l cl), (6, (.func (.func 93) #[] #[p_ b1]))] ?_)
  refine A.cons (A.inlX (some 7) [vS al l cl, (.func (.func 93) #[] #[p_ b1])] [(0, vS al l cl), (1, (.func (.func 93) #[] #[p_ b1]))] (by kernel_rfl) rfl Try.func92 rfl rfl ?_)
  refine A.sr (A.n1 [.al] [] (fun b3 => [(4, p_ b3)]) (fun b3 => blk b3 [u_ 0, u_ 0] 79) ?_)
  intro b3
  refine tsr (A.n1 [.al] [] (fun b4 => [(5, p_ b4)]) (fun b4 => blk b4 [u_ 0, u_ 0] 79) ?_)
  intro b4
  refine A.tn (A.seq (A.sr (A.g [.p, .p, .p] [0] [(8, vS al l cl), (9, c_ l.length), (10, i_ 0)] ?_)))
  refine A.tn (A.block (A.setH [blk b1 [u_ t] 24, blk b2 [u_ 0, u_ 0] 79, blk b3 [u_ 0, u_ 0] 79, blk b4 [u_ (nH (svs (l.take 0) t)), u_ (nL (svs (l.take 0) t))] 79] (cc rfl (cc rfl (cc rfl (cc (blkC (cc (congrArg u_ (by (simp [svs, slps, nH, nL, dA, dB, dC, dD]) : 0 = (nH (svs (l.take 0) t)))) (cc (congrArg u_ (by (simp [svs, slps, nH, nL, dA, dB, dC, dD]) : 0 = (nL (svs (l.take 0) t)))) rfl))) rfl)))) ?_))
  refine A.loop (fun (zz : Nat) => match zz with | k => [(1, (.func (.func 93) #[] #[p_ b1])), (4, p_ b3), (5, p_ b4), (8, vS al l cl), (9, c_ l.length), (10, c_ k)]) (fun (zz : Nat) => match zz with | k => [blk b4 [u_ (nH (svs (l.take k) t)), u_ (nL (svs (l.take k) t))] 79, blk b1 [u_ t] 24, blk b2 [u_ 0, u_ 0] 79, blk b3 [u_ 0, u_ 0] 79]) (fun (zz : Nat) => match zz with | k => (k ≤ l.length)) (fun (zz : Nat) => match zz with | k => l.length - k) (0 : Nat) (by omega) ?_ ?_
  · exact A.hK [3, 0, 0, 0]
  rintro k hk
  have hk : k ≤ l.length := hk
  have hq := svs_rng (take_ok hR k) ht (by simp; omega)
  refine A.sr (A.g [.p] [] [(11, b_ (decide ((k : Int) < (l.length : Int))))] ?_)
  refine A.tn (A.seq (A.cn (decide ((k : Int) < (l.length : Int))) (fun e1 => ?_) (fun e1 => ?_)))
  · have p1 := of_decide_eq_true e1
    refine A.skip (A.tn (A.seq (A.block (A.sr (A.gpk [.ix] [11] [(12, (.pointer (some ((at0 al).add (k * 3)))))] [] (fun κ => κ.ix al l.length (k : Int) ∧ True) ⟨(ixOf encCv_len (by decide) (rd_old r0 (by simp [feet])) (by omega)), trivial⟩ ?_)))))
    obtain ⟨x5, hx5⟩ : ∃ x, (l)[k]? = some x := ⟨_, List.getElem?_eq_getElem (by omega)⟩
    refine A.goA1 [.rd (encCv x5), .al, .st 4] [1, 4, 5, 8, 9, 10, 7] (fun b6 => [(1, (.func (.func 93) #[] #[p_ b1])), (4, p_ b3), (5, p_ b4), (8, vS al l cl), (9, c_ l.length), (10, c_ k), (7, p_ b6)]) (fun b6 => [blk b4 [u_ (nH (svs (l.take k) t)), u_ (nL (svs (l.take k) t))] 79, blk b1 [u_ t] 24, blk b2 [u_ 0, u_ 0] 79, blk b3 [u_ 0, u_ 0] 79, blk b6 (encCv x5) 43]) (fun b6 => [b6]) (fun _ => (fun κ => κ.rd ((at0 al).add (k * 3)) (encCv x5) ∧ True)) (fun _ => by kernel_rfl) (fun b6 => ⟨(reads_at0 (vs := (encCv x5)) encCv_len (rd_old r0 (by simp [feet])) hx5 (Nat.le_of_ble_eq_true rfl) rfl), trivial⟩) ?_
    intro b6
    refine tsr (A.gk [.ld 4, .cq (b_ (ofC x5.ka x5.kb x5.kc != 0))] [] [(15, b_ (ofC x5.ka x5.kb x5.kc != 0))] [b6] (fun κ => κ.call 85 [(.agg (encCv x5).toArray)] (b_ (ofC x5.ka x5.kb x5.kc != 0)) ∧ True) ⟨(fun ww ss => cright_spec x5.ka x5.kb x5.kc ww), trivial⟩ ?_)
    refine A.tn (A.cn (ofC x5.ka x5.kb x5.kc != 0) (fun e2 => ?_) (fun e2 => ?_))
    · have p2 := e2; try simp only [nrm] at p2
      refine A.draw2 [8] 9 (by kernel_rfl) ?_
      refine A.dP 1 [.ld 0, .p, .ld 4, .cq (.agg #[u_ (nH (sv x5.ka x5.kb x5.kc t)), u_ (nL (sv x5.ka x5.kb x5.kc t))]), .cq (.tuple #[(.agg #[u_ (nH (((svs (l.take k) t) + (sv x5.ka x5.kb x5.kc t)) % 340282366920938463463374607431768211456)), u_ (nL (((svs (l.take k) t) + (sv x5.ka x5.kb x5.kc t)) % 340282366920938463463374607431768211456))]), b_ (decide ((svs (l.take k) t) + (sv x5.ka x5.kb x5.kc t) ≥ 340282366920938463463374607431768211456))]), .p, .p, .p] [0, 1, 2, 3, 4, 5, 6, 7] [7, 15] [(22, (.agg #[u_ (nH (((svs (l.take k) t) + (sv x5.ka x5.kb x5.kc t)) % 340282366920938463463374607431768211456)), u_ (nL (((svs (l.take k) t) + (sv x5.ka x5.kb x5.kc t)) % 340282366920938463463374607431768211456))]))] [b4, b6] (fun κ => κ.call 93 [(.agg (encCv x5).toArray), p_ b1] (.agg #[u_ (nH (sv x5.ka x5.kb x5.kc t)), u_ (nL (sv x5.ka x5.kb x5.kc t))]) ∧ κ.call 125 [(.agg #[u_ (nH (svs (l.take k) t)), u_ (nL (svs (l.take k) t))]), (.agg #[u_ (nH (sv x5.ka x5.kb x5.kc t)), u_ (nL (sv x5.ka x5.kb x5.kc t))])] (.tuple #[(.agg #[u_ (nH (((svs (l.take k) t) + (sv x5.ka x5.kb x5.kc t)) % 340282366920938463463374607431768211456)), u_ (nL (((svs (l.take k) t) + (sv x5.ka x5.kb x5.kc t)) % 340282366920938463463374607431768211456))]), b_ (decide ((svs (l.take k) t) + (sv x5.ka x5.kb x5.kc t) ≥ 340282366920938463463374607431768211456))]) ∧ True) ⟨(fun ww ss => csv1_spec x5.ka x5.kb x5.kc t b1 (by (obtain ⟨q1_, q2_, q3_⟩ := cv_nn (hR _ (List.mem_of_getElem? (by assumption))); exact q1_)) (by (obtain ⟨q1_, q2_, q3_⟩ := cv_nn (hR _ (List.mem_of_getElem? (by assumption))); exact q2_)) (by (obtain ⟨q1_, q2_, q3_⟩ := cv_nn (hR _ (List.mem_of_getElem? (by assumption))); exact q3_)) (by assumption) ww (ss.mem (i := 1) rfl)), (fun ww ss => wAdd_spec (svs (l.take k) t) (sv x5.ka x5.kb x5.kc t) (by (have h_ := svs_rng (take_ok hR k) ht (by simp; omega); unfold W128; omega)) (by (obtain ⟨q1_, q2_, q3_⟩ := cv_nn (hR _ (List.mem_of_getElem? (by assumption))); (have h1_ := sv_rng q1_.1 q2_.1 q3_.1 ht; unfold W128; omega))) ww), trivial⟩ ?_
      refine A.only2 8 rfl (by kernel_rfl) (A.store 0 (vs := [u_ (nH (((svs (l.take k) t) + (sv x5.ka x5.kb x5.kc t)) % 340282366920938463463374607431768211456)), u_ (nL (((svs (l.take k) t) + (sv x5.ka x5.kb x5.kc t)) % 340282366920938463463374607431768211456))]) [blk b4 [u_ (nH (((svs (l.take k) t) + (sv x5.ka x5.kb x5.kc t)) % 340282366920938463463374607431768211456)), u_ (nL (((svs (l.take k) t) + (sv x5.ka x5.kb x5.kc t)) % 340282366920938463463374607431768211456))] 79, blk b1 [u_ t] 24, blk b2 [u_ 0, u_ 0] 79, blk b3 [u_ 0, u_ 0] 79, blk b6 (encCv x5) 43] (by kernel_rfl) rfl rfl rfl rfl (by kernel_rfl) rfl rfl (by kernel_rfl) rfl ?_)
      refine A.stage ?_
      refine A.fin2 (by kernel_rfl) ?_
      refine A.bn (tr (A.goA [.w ((k : Int) + 1), .p] [(1, (.func (.func 93) #[] #[p_ b1])), (4, p_ b3), (5, p_ b4), (8, vS al l cl), (9, c_ l.length), (10, i_ ((k : Int) + 1))] [] (fun κ => (IntKind.i64.wrap ((k : Int) + 1) = ((k : Int) + 1)) ∧ True) (by kernel_rfl) ⟨(wrap_i64 (e := (k : Int) + 1) (by constructor <;> omega)), trivial⟩ ?_))
      refine A.tn ?_
      have hv7 : (((svs (l.take k) t) + (sv x5.ka x5.kb x5.kc t)) % 340282366920938463463374607431768211456) = (svs (l.take (k + 1)) t) := by (rw [take_snoc (by assumption), svs_snoc]; obtain ⟨q1_, q2_, q3_⟩ := cv_nn (hR _ (List.mem_of_getElem? (by assumption))); have h1_ := sv_rng q1_.1 q2_.1 q3_.1 ht; have h2_ := svs_rng (take_ok hR k) ht (by simp; omega); (unfold svV; exact Int.emod_eq_of_lt (by omega) (by omega)))
      refine A.setH [blk b4 [u_ (nH (svs (l.take (k + 1)) t)), u_ (nL (svs (l.take (k + 1)) t))] 79, blk b1 [u_ t] 24, blk b2 [u_ 0, u_ 0] 79, blk b3 [u_ 0, u_ 0] 79, blk b6 (encCv x5) 43] (cc (blkC (cc (congrArg u_ (by rw [hv7] : (nH (((svs (l.take k) t) + (sv x5.ka x5.kb x5.kc t)) % 340282366920938463463374607431768211456)) = (nH (svs (l.take (k + 1)) t)))) (cc (congrArg u_ (by rw [hv7] : (nL (((svs (l.take k) t) + (sv x5.ka x5.kb x5.kc t)) % 340282366920938463463374607431768211456)) = (nL (svs (l.take (k + 1)) t)))) rfl))) rfl) ?_
      refine A.next (k + 1) (by omega) (by (simp; omega)) ?_
      exact A.hK [0, 0, 0, 0]
    have p2 := e2; try simp only [nrm] at p2
    refine A.skip (A.bn (tr (A.gk [.w ((k : Int) + 1), .p] [7, 15] [(10, i_ ((k : Int) + 1))] [] (fun κ => (IntKind.i64.wrap ((k : Int) + 1) = ((k : Int) + 1)) ∧ True) ⟨(wrap_i64 (e := (k : Int) + 1) (by constructor <;> omega)), trivial⟩ ?_)))
    refine A.tn ?_
    have hv8 : (svs (l.take k) t) = (svs (l.take (k + 1)) t) := by (rw [take_snoc (by assumption), svs_snoc]; obtain ⟨q1_, q2_, q3_⟩ := cv_nn (hR _ (List.mem_of_getElem? (by assumption))); have h1_ := sv_rng q1_.1 q2_.1 q3_.1 ht; have h2_ := svs_rng (take_ok hR k) ht (by simp; omega); (unfold svV sv; rw [if_pos (by assumption)]; omega))
    refine A.setH [blk b4 [u_ (nH (svs (l.take (k + 1)) t)), u_ (nL (svs (l.take (k + 1)) t))] 79, blk b1 [u_ t] 24, blk b2 [u_ 0, u_ 0] 79, blk b3 [u_ 0, u_ 0] 79, blk b6 (encCv x5) 43] (cc (blkC (cc (congrArg u_ (by rw [hv8] : (nH (svs (l.take k) t)) = (nH (svs (l.take (k + 1)) t)))) (cc (congrArg u_ (by rw [hv8] : (nL (svs (l.take k) t)) = (nL (svs (l.take (k + 1)) t)))) rfl))) rfl) ?_
    refine A.next (k + 1) (by omega) (by (simp; omega)) ?_
    exact A.hK [0, 0, 0, 0]
  have p1 := of_decide_eq_false e1
  refine A.exit (A.te (A.te (A.bh (tsr (A.gs [.ld 0, .st 3] [1, 5, 8, 9, 10, 11] [] [(3, blk b3 [u_ (nH (svs (l.take k) t)), u_ (nL (svs (l.take k) t))] 79)] [b4, b3] ?_)))))
  refine A.tn (A.ret (A.post [(.agg #[u_ (nH (svs (l.take k) t)), u_ (nL (svs (l.take k) t))])] (fun aa ww rr ss => ⟨rv_cellN (vs := [u_ (nH (svs (l.take k) t)), u_ (nL (svs (l.take k) t))]) rr ss rfl (by kernel_rfl) (reads_blk (i := 3) rfl rfl), trivial⟩) (A.back (by kernel_rfl) ?_)))
  refine A.items [blk b1 [u_ t] 24, blk b2 [u_ 0, u_ 0] 79] (.cons _ (.cons_cons _ (.cons_cons _ (.cons _ (List.Sublist.slnil))))) ?_
  refine A.goAS [.st 1] [(4, p_ b2)] [blk b1 [u_ t] 24, blk b2 [u_ (nH (svs (l.take k) t)), u_ (nL (svs (l.take k) t))] 79] [b2] T0 (by kernel_rfl) trivial ?_
  refine A.tn (A.ret (A.postQ [(.agg #[u_ (nH (svs (l.take k) t)), u_ (nL (svs (l.take k) t))])] (fun aa ww rr ss => ⟨rv_cellN (vs := [u_ (nH (svs (l.take k) t)), u_ (nL (svs (l.take k) t))]) rr ss rfl (by kernel_rfl) (reads_blk (i := 1) rfl rfl), trivial⟩) ?_))
  show ((.agg #[u_ (nH (svs (l.take k) t)), u_ (nL (svs (l.take k) t))]) : Value) = (.agg #[u_ (nH (svs l t)), u_ (nL (svs l t))])
  (have hk2 : k = l.length := by omega); subst hk2; rw [List.take_length]

theorem rssv_spec (al : Option Addr) (l : List Cv) (cl : Nat) (t : Int) (hl : l.length ≤ 1000) (hR : ∀ v ∈ l, CvOk v) (ht : 0 ≤ t ∧ t < 18446744073709551616) (w : World) (r0 : arrAt w al (V.flat encCv l)) :
    Calls Try.prog 17 #[vS al l cl, u_ t] w fun e w' => e = .returned (.agg #[u_ (dA (svs l t)), u_ (dB (svs l t)), u_ (dC (svs l t)), u_ (dD (svs l t))]) ∧ Fr [] w w' := by
  refine calls_of (args := [vS al l cl, u_ t]) (penv [vS al l cl, u_ t]) [] [] Try.func17 rfl rfl (look_penv _) (HS.nil w) ?_
  refine A.sr (A.n1 [.al] [] (fun b1 => [(4, p_ b1)]) (fun b1 => blk b1 [u_ 0, u_ 0, u_ 0, u_ 0] 36) ?_)
  intro b1
  refine tsr (A.g1 [.p, .al, .st 1] [] (fun b2 => [(5, p_ b2)]) (fun b2 => []) (fun b2 => blk b2 [u_ 0, u_ 0, u_ 0, u_ 0] 36) (fun b2 => [b2]) ?_)
  intro b2
  refine A.tn (A.seq (A.sr (A.g [.p, .p, .p] [0] [(9, vS al l cl), (10, c_ l.length), (11, i_ 0)] ?_)))
  refine A.tn (A.block (A.setH [blk b1 [u_ 0, u_ 0, u_ 0, u_ 0] 36, blk b2 [u_ (dA (svs (l.take 0) t)), u_ (dB (svs (l.take 0) t)), u_ (dC (svs (l.take 0) t)), u_ (dD (svs (l.take 0) t))] 36] (cc rfl (cc (blkC (cc (congrArg u_ (by (simp [svs, slps, nH, nL, dA, dB, dC, dD]) : 0 = (dA (svs (l.take 0) t)))) (cc (congrArg u_ (by (simp [svs, slps, nH, nL, dA, dB, dC, dD]) : 0 = (dB (svs (l.take 0) t)))) (cc (congrArg u_ (by (simp [svs, slps, nH, nL, dA, dB, dC, dD]) : 0 = (dC (svs (l.take 0) t)))) (cc (congrArg u_ (by (simp [svs, slps, nH, nL, dA, dB, dC, dD]) : 0 = (dD (svs (l.take 0) t)))) rfl))))) rfl)) ?_))
  refine A.loop (fun (zz : Nat) => match zz with | k => [(1, u_ t), (4, p_ b1), (5, p_ b2), (9, vS al l cl), (10, c_ l.length), (11, c_ k)]) (fun (zz : Nat) => match zz with | k => [blk b2 [u_ (dA (svs (l.take k) t)), u_ (dB (svs (l.take k) t)), u_ (dC (svs (l.take k) t)), u_ (dD (svs (l.take k) t))] 36, blk b1 [u_ 0, u_ 0, u_ 0, u_ 0] 36]) (fun (zz : Nat) => match zz with | k => (k ≤ l.length)) (fun (zz : Nat) => match zz with | k => l.length - k) (0 : Nat) (by omega) ?_ ?_
  · exact A.hK [1, 0]
  rintro k hk
  have hk : k ≤ l.length := hk
  have hq := svs_rng (take_ok hR k) ht (by simp; omega)
  refine A.sr (A.g [.p] [] [(12, b_ (decide ((k : Int) < (l.length : Int))))] ?_)
  refine A.tn (A.seq (A.cn (decide ((k : Int) < (l.length : Int))) (fun e1 => ?_) (fun e1 => ?_)))
  · have p1 := of_decide_eq_true e1
    refine A.skip (A.tn (A.seq (A.block (A.sr (A.gpk [.ix] [12] [(13, (.pointer (some ((at0 al).add (k * 3)))))] [] (fun κ => κ.ix al l.length (k : Int) ∧ True) ⟨(ixOf encCv_len (by decide) (rd_old r0 (by simp [feet])) (by omega)), trivial⟩ ?_)))))
    obtain ⟨x3, hx3⟩ : ∃ x, (l)[k]? = some x := ⟨_, List.getElem?_eq_getElem (by omega)⟩
    refine A.goA1 [.rd (encCv x3), .al, .st 2] [1, 4, 5, 9, 10, 11, 7] (fun b4 => [(1, u_ t), (4, p_ b1), (5, p_ b2), (9, vS al l cl), (10, c_ l.length), (11, c_ k), (7, p_ b4)]) (fun b4 => [blk b2 [u_ (dA (svs (l.take k) t)), u_ (dB (svs (l.take k) t)), u_ (dC (svs (l.take k) t)), u_ (dD (svs (l.take k) t))] 36, blk b1 [u_ 0, u_ 0, u_ 0, u_ 0] 36, blk b4 (encCv x3) 43]) (fun b4 => [b4]) (fun _ => (fun κ => κ.rd ((at0 al).add (k * 3)) (encCv x3) ∧ True)) (fun _ => by kernel_rfl) (fun b4 => ⟨(reads_at0 (vs := (encCv x3)) encCv_len (rd_old r0 (by simp [feet])) hx3 (Nat.le_of_ble_eq_true rfl) rfl), trivial⟩) ?_
    intro b4
    refine A.tn (A.draw2 [5] 6 (by kernel_rfl) ?_)
    refine A.dP 1 [.ld 0, .ld 2, .p, .cq (.agg #[u_ (dA (sv x3.ka x3.kb x3.kc t)), u_ (dB (sv x3.ka x3.kb x3.kc t)), u_ (dC (sv x3.ka x3.kb x3.kc t)), u_ (dD (sv x3.ka x3.kb x3.kc t))]), .cq (.agg #[u_ (dA (((svs (l.take k) t) + (sv x3.ka x3.kb x3.kc t)) % 340282366920938463463374607431768211456)), u_ (dB (((svs (l.take k) t) + (sv x3.ka x3.kb x3.kc t)) % 340282366920938463463374607431768211456)), u_ (dC (((svs (l.take k) t) + (sv x3.ka x3.kb x3.kc t)) % 340282366920938463463374607431768211456)), u_ (dD (((svs (l.take k) t) + (sv x3.ka x3.kb x3.kc t)) % 340282366920938463463374607431768211456))])] [0, 1, 2, 3, 4] [7] [(19, (.agg #[u_ (dA (((svs (l.take k) t) + (sv x3.ka x3.kb x3.kc t)) % 340282366920938463463374607431768211456)), u_ (dB (((svs (l.take k) t) + (sv x3.ka x3.kb x3.kc t)) % 340282366920938463463374607431768211456)), u_ (dC (((svs (l.take k) t) + (sv x3.ka x3.kb x3.kc t)) % 340282366920938463463374607431768211456)), u_ (dD (((svs (l.take k) t) + (sv x3.ka x3.kb x3.kc t)) % 340282366920938463463374607431768211456))]))] [b2, b4] (fun κ => κ.call 54 [(.agg (encCv x3).toArray), u_ t] (.agg #[u_ (dA (sv x3.ka x3.kb x3.kc t)), u_ (dB (sv x3.ka x3.kb x3.kc t)), u_ (dC (sv x3.ka x3.kb x3.kc t)), u_ (dD (sv x3.ka x3.kb x3.kc t))]) ∧ κ.call 53 [(.agg #[u_ (dA (svs (l.take k) t)), u_ (dB (svs (l.take k) t)), u_ (dC (svs (l.take k) t)), u_ (dD (svs (l.take k) t))]), (.agg #[u_ (dA (sv x3.ka x3.kb x3.kc t)), u_ (dB (sv x3.ka x3.kb x3.kc t)), u_ (dC (sv x3.ka x3.kb x3.kc t)), u_ (dD (sv x3.ka x3.kb x3.kc t))])] (.agg #[u_ (dA (((svs (l.take k) t) + (sv x3.ka x3.kb x3.kc t)) % 340282366920938463463374607431768211456)), u_ (dB (((svs (l.take k) t) + (sv x3.ka x3.kb x3.kc t)) % 340282366920938463463374607431768211456)), u_ (dC (((svs (l.take k) t) + (sv x3.ka x3.kb x3.kc t)) % 340282366920938463463374607431768211456)), u_ (dD (((svs (l.take k) t) + (sv x3.ka x3.kb x3.kc t)) % 340282366920938463463374607431768211456))]) ∧ True) ⟨(fun ww ss => rsv_spec x3.ka x3.kb x3.kc t (by (obtain ⟨q1_, q2_, q3_⟩ := cv_nn (hR _ (List.mem_of_getElem? (by assumption))); exact q1_)) (by (obtain ⟨q1_, q2_, q3_⟩ := cv_nn (hR _ (List.mem_of_getElem? (by assumption))); exact q2_)) (by (obtain ⟨q1_, q2_, q3_⟩ := cv_nn (hR _ (List.mem_of_getElem? (by assumption))); exact q3_)) (by assumption) ww), (fun ww ss => rPlus_spec (svs (l.take k) t) (sv x3.ka x3.kb x3.kc t) (by (have h_ := svs_rng (take_ok hR k) ht (by simp; omega); unfold W128; omega)) (by (obtain ⟨q1_, q2_, q3_⟩ := cv_nn (hR _ (List.mem_of_getElem? (by assumption))); (have h1_ := sv_rng q1_.1 q2_.1 q3_.1 ht; unfold W128; omega))) ww), trivial⟩ ?_
    refine A.only2 5 rfl (by kernel_rfl) (A.store 0 (vs := [u_ (dA (((svs (l.take k) t) + (sv x3.ka x3.kb x3.kc t)) % 340282366920938463463374607431768211456)), u_ (dB (((svs (l.take k) t) + (sv x3.ka x3.kb x3.kc t)) % 340282366920938463463374607431768211456)), u_ (dC (((svs (l.take k) t) + (sv x3.ka x3.kb x3.kc t)) % 340282366920938463463374607431768211456)), u_ (dD (((svs (l.take k) t) + (sv x3.ka x3.kb x3.kc t)) % 340282366920938463463374607431768211456))]) [blk b2 [u_ (dA (((svs (l.take k) t) + (sv x3.ka x3.kb x3.kc t)) % 340282366920938463463374607431768211456)), u_ (dB (((svs (l.take k) t) + (sv x3.ka x3.kb x3.kc t)) % 340282366920938463463374607431768211456)), u_ (dC (((svs (l.take k) t) + (sv x3.ka x3.kb x3.kc t)) % 340282366920938463463374607431768211456)), u_ (dD (((svs (l.take k) t) + (sv x3.ka x3.kb x3.kc t)) % 340282366920938463463374607431768211456))] 36, blk b1 [u_ 0, u_ 0, u_ 0, u_ 0] 36, blk b4 (encCv x3) 43] (by kernel_rfl) rfl rfl rfl rfl (by kernel_rfl) rfl rfl (by kernel_rfl) rfl ?_)
    refine A.stage ?_
    refine A.fin2 (by kernel_rfl) ?_
    refine A.bn (tr (A.goA [.w ((k : Int) + 1), .p] [(1, u_ t), (4, p_ b1), (5, p_ b2), (9, vS al l cl), (10, c_ l.length), (11, i_ ((k : Int) + 1))] [] (fun κ => (IntKind.i64.wrap ((k : Int) + 1) = ((k : Int) + 1)) ∧ True) (by kernel_rfl) ⟨(wrap_i64 (e := (k : Int) + 1) (by constructor <;> omega)), trivial⟩ ?_))
    refine A.tn ?_
    have hv5 : (((svs (l.take k) t) + (sv x3.ka x3.kb x3.kc t)) % 340282366920938463463374607431768211456) = (svs (l.take (k + 1)) t) := by (rw [take_snoc (by assumption), svs_snoc]; obtain ⟨q1_, q2_, q3_⟩ := cv_nn (hR _ (List.mem_of_getElem? (by assumption))); have h1_ := sv_rng q1_.1 q2_.1 q3_.1 ht; have h2_ := svs_rng (take_ok hR k) ht (by simp; omega); (unfold svV; exact Int.emod_eq_of_lt (by omega) (by omega)))
    refine A.setH [blk b2 [u_ (dA (svs (l.take (k + 1)) t)), u_ (dB (svs (l.take (k + 1)) t)), u_ (dC (svs (l.take (k + 1)) t)), u_ (dD (svs (l.take (k + 1)) t))] 36, blk b1 [u_ 0, u_ 0, u_ 0, u_ 0] 36, blk b4 (encCv x3) 43] (cc (blkC (cc (congrArg u_ (by rw [hv5] : (dA (((svs (l.take k) t) + (sv x3.ka x3.kb x3.kc t)) % 340282366920938463463374607431768211456)) = (dA (svs (l.take (k + 1)) t)))) (cc (congrArg u_ (by rw [hv5] : (dB (((svs (l.take k) t) + (sv x3.ka x3.kb x3.kc t)) % 340282366920938463463374607431768211456)) = (dB (svs (l.take (k + 1)) t)))) (cc (congrArg u_ (by rw [hv5] : (dC (((svs (l.take k) t) + (sv x3.ka x3.kb x3.kc t)) % 340282366920938463463374607431768211456)) = (dC (svs (l.take (k + 1)) t)))) (cc (congrArg u_ (by rw [hv5] : (dD (((svs (l.take k) t) + (sv x3.ka x3.kb x3.kc t)) % 340282366920938463463374607431768211456)) = (dD (svs (l.take (k + 1)) t)))) rfl))))) rfl) ?_
    refine A.next (k + 1) (by omega) (by (simp; omega)) ?_
    exact A.hK [0, 0]
  have p1 := of_decide_eq_false e1
  refine A.exit (A.te (A.te (A.bh (tsr (A.gs [.ld 0, .st 1] [1, 5, 9, 10, 11, 12] [] [(1, blk b1 [u_ (dA (svs (l.take k) t)), u_ (dB (svs (l.take k) t)), u_ (dC (svs (l.take k) t)), u_ (dD (svs (l.take k) t))] 36)] [b2, b1] ?_)))))
  refine A.tn (A.ret (A.postQ [(.agg #[u_ (dA (svs (l.take k) t)), u_ (dB (svs (l.take k) t)), u_ (dC (svs (l.take k) t)), u_ (dD (svs (l.take k) t))])] (fun aa ww rr ss => ⟨rv_cellN (vs := [u_ (dA (svs (l.take k) t)), u_ (dB (svs (l.take k) t)), u_ (dC (svs (l.take k) t)), u_ (dD (svs (l.take k) t))]) rr ss rfl (by kernel_rfl) (reads_blk (i := 1) rfl rfl), trivial⟩) ?_))
  show ((.agg #[u_ (dA (svs (l.take k) t)), u_ (dB (svs (l.take k) t)), u_ (dC (svs (l.take k) t)), u_ (dD (svs (l.take k) t))]) : Value) = (.agg #[u_ (dA (svs l t)), u_ (dB (svs l t)), u_ (dC (svs l t)), u_ (dD (svs l t))])
  (have hk2 : k = l.length := by omega); subst hk2; rw [List.take_length]

theorem ssl_spec (al : Option Addr) (l : List Cv) (cl : Nat) (hl : l.length ≤ 1000) (hR : ∀ v ∈ l, CvOk v) (w : World) (r0 : arrAt w al (V.flat encCv l)) :
    Calls Try.prog 46 #[vS al l cl] w fun e w' => e = .returned (.agg #[u_ (nH (slps false l)), u_ (nL (slps false l))]) ∧ Fr [] w w' := by
  refine calls_of (args := [vS al l cl]) (penv [vS al l cl]) [] [] Try.func46 rfl rfl (look_penv _) (HS.nil w) ?_
  refine A.sr (A.n1 [.al] [] (fun b1 => [(2, p_ b1)]) (fun b1 => blk b1 [u_ 0, u_ 0] 79) ?_)
  intro b1
  refine tsr (A.gp [.p] [0] [(3, vS al l cl)] ?_)
  refine A.cons (A.inlX (some 4) [vS al l cl, (.func (.func 95) #[] #[])] [(0, vS al l cl), (1, (.func (.func 95) #[] #[]))] (by kernel_rfl) rfl Try.func92 rfl rfl ?_)
  refine A.sr (A.n1 [.al] [] (fun b2 => [(4, p_ b2)]) (fun b2 => blk b2 [u_ 0, u_ 0] 79) ?_)
  intro b2
  refine tsr (A.n1 [.al] [] (fun b3 => [(5, p_ b3)]) (fun b3 => blk b3 [u_ 0, u_ 0] 79) ?_)
  intro b3
  refine A.tn (A.seq (A.sr (A.g [.p, .p, .p] [0] [(8, vS al l cl), (9, c_ l.length), (10, i_ 0)] ?_)))
  refine A.tn (A.block (A.setH [blk b1 [u_ 0, u_ 0] 79, blk b2 [u_ 0, u_ 0] 79, blk b3 [u_ (nH (slps false (l.take 0))), u_ (nL (slps false (l.take 0)))] 79] (cc rfl (cc rfl (cc (blkC (cc (congrArg u_ (by (simp [svs, slps, nH, nL, dA, dB, dC, dD]) : 0 = (nH (slps false (l.take 0))))) (cc (congrArg u_ (by (simp [svs, slps, nH, nL, dA, dB, dC, dD]) : 0 = (nL (slps false (l.take 0))))) rfl))) rfl))) ?_))
  refine A.loop (fun (zz : Nat) => match zz with | k => [(1, (.func (.func 95) #[] #[])), (4, p_ b2), (5, p_ b3), (8, vS al l cl), (9, c_ l.length), (10, c_ k)]) (fun (zz : Nat) => match zz with | k => [blk b3 [u_ (nH (slps false (l.take k))), u_ (nL (slps false (l.take k)))] 79, blk b1 [u_ 0, u_ 0] 79, blk b2 [u_ 0, u_ 0] 79]) (fun (zz : Nat) => match zz with | k => (k ≤ l.length)) (fun (zz : Nat) => match zz with | k => l.length - k) (0 : Nat) (by omega) ?_ ?_
  · exact A.hK [2, 0, 0]
  rintro k hk
  have hk : k ≤ l.length := hk
  have hq := slps_rng (st := false) (take_ok hR k) (by simp; omega)
  refine A.sr (A.g [.p] [] [(11, b_ (decide ((k : Int) < (l.length : Int))))] ?_)
  refine A.tn (A.seq (A.cn (decide ((k : Int) < (l.length : Int))) (fun e1 => ?_) (fun e1 => ?_)))
  · have p1 := of_decide_eq_true e1
    refine A.skip (A.tn (A.seq (A.block (A.sr (A.gpk [.ix] [11] [(12, (.pointer (some ((at0 al).add (k * 3)))))] [] (fun κ => κ.ix al l.length (k : Int) ∧ True) ⟨(ixOf encCv_len (by decide) (rd_old r0 (by simp [feet])) (by omega)), trivial⟩ ?_)))))
    obtain ⟨x4, hx4⟩ : ∃ x, (l)[k]? = some x := ⟨_, List.getElem?_eq_getElem (by omega)⟩
    refine A.goA1 [.rd (encCv x4), .al, .st 3] [1, 4, 5, 8, 9, 10, 7] (fun b5 => [(1, (.func (.func 95) #[] #[])), (4, p_ b2), (5, p_ b3), (8, vS al l cl), (9, c_ l.length), (10, c_ k), (7, p_ b5)]) (fun b5 => [blk b3 [u_ (nH (slps false (l.take k))), u_ (nL (slps false (l.take k)))] 79, blk b1 [u_ 0, u_ 0] 79, blk b2 [u_ 0, u_ 0] 79, blk b5 (encCv x4) 43]) (fun b5 => [b5]) (fun _ => (fun κ => κ.rd ((at0 al).add (k * 3)) (encCv x4) ∧ True)) (fun _ => by kernel_rfl) (fun b5 => ⟨(reads_at0 (vs := (encCv x4)) encCv_len (rd_old r0 (by simp [feet])) hx4 (Nat.le_of_ble_eq_true rfl) rfl), trivial⟩) ?_
    intro b5
    refine tsr (A.gk [.ld 3, .cq (b_ (ofC x4.ka x4.kb x4.kc != 0))] [] [(15, b_ (ofC x4.ka x4.kb x4.kc != 0))] [b5] (fun κ => κ.call 85 [(.agg (encCv x4).toArray)] (b_ (ofC x4.ka x4.kb x4.kc != 0)) ∧ True) ⟨(fun ww ss => cright_spec x4.ka x4.kb x4.kc ww), trivial⟩ ?_)
    refine A.tn (A.cn (ofC x4.ka x4.kb x4.kc != 0) (fun e2 => ?_) (fun e2 => ?_))
    · have p2 := e2; try simp only [nrm] at p2
      refine A.draw2 [8] 9 (by kernel_rfl) ?_
      refine A.dP 1 [.ld 0, .p, .ld 3, .cq (.agg #[u_ (nH x4.kc), u_ (nL x4.kc)]), .cq (.tuple #[(.agg #[u_ (nH (((slps false (l.take k)) + x4.kc) % 340282366920938463463374607431768211456)), u_ (nL (((slps false (l.take k)) + x4.kc) % 340282366920938463463374607431768211456))]), b_ (decide ((slps false (l.take k)) + x4.kc ≥ 340282366920938463463374607431768211456))]), .p, .p, .p] [0, 1, 2, 3, 4, 5, 6, 7] [7, 15] [(22, (.agg #[u_ (nH (((slps false (l.take k)) + x4.kc) % 340282366920938463463374607431768211456)), u_ (nL (((slps false (l.take k)) + x4.kc) % 340282366920938463463374607431768211456))]))] [b3, b5] (fun κ => κ.call 95 [(.agg (encCv x4).toArray)] (.agg #[u_ (nH x4.kc), u_ (nL x4.kc)]) ∧ κ.call 125 [(.agg #[u_ (nH (slps false (l.take k))), u_ (nL (slps false (l.take k)))]), (.agg #[u_ (nH x4.kc), u_ (nL x4.kc)])] (.tuple #[(.agg #[u_ (nH (((slps false (l.take k)) + x4.kc) % 340282366920938463463374607431768211456)), u_ (nL (((slps false (l.take k)) + x4.kc) % 340282366920938463463374607431768211456))]), b_ (decide ((slps false (l.take k)) + x4.kc ≥ 340282366920938463463374607431768211456))]) ∧ True) ⟨(fun ww ss => cs11_spec x4.ka x4.kb x4.kc (by (obtain ⟨q1_, q2_, q3_⟩ := cv_nn (hR _ (List.mem_of_getElem? (by assumption))); exact q1_)) (by (obtain ⟨q1_, q2_, q3_⟩ := cv_nn (hR _ (List.mem_of_getElem? (by assumption))); exact q2_)) (by (obtain ⟨q1_, q2_, q3_⟩ := cv_nn (hR _ (List.mem_of_getElem? (by assumption))); exact q3_)) ww), (fun ww ss => wAdd_spec (slps false (l.take k)) x4.kc (by (have h_ := slps_rng (st := false) (take_ok hR k) (by simp; omega); unfold W128; omega)) (by (obtain ⟨q1_, q2_, q3_⟩ := cv_nn (hR _ (List.mem_of_getElem? (by assumption))); unfold W128; omega)) ww), trivial⟩ ?_
      refine A.only2 8 rfl (by kernel_rfl) (A.store 0 (vs := [u_ (nH (((slps false (l.take k)) + x4.kc) % 340282366920938463463374607431768211456)), u_ (nL (((slps false (l.take k)) + x4.kc) % 340282366920938463463374607431768211456))]) [blk b3 [u_ (nH (((slps false (l.take k)) + x4.kc) % 340282366920938463463374607431768211456)), u_ (nL (((slps false (l.take k)) + x4.kc) % 340282366920938463463374607431768211456))] 79, blk b1 [u_ 0, u_ 0] 79, blk b2 [u_ 0, u_ 0] 79, blk b5 (encCv x4) 43] (by kernel_rfl) rfl rfl rfl rfl (by kernel_rfl) rfl rfl (by kernel_rfl) rfl ?_)
      refine A.stage ?_
      refine A.fin2 (by kernel_rfl) ?_
      refine A.bn (tr (A.goA [.w ((k : Int) + 1), .p] [(1, (.func (.func 95) #[] #[])), (4, p_ b2), (5, p_ b3), (8, vS al l cl), (9, c_ l.length), (10, i_ ((k : Int) + 1))] [] (fun κ => (IntKind.i64.wrap ((k : Int) + 1) = ((k : Int) + 1)) ∧ True) (by kernel_rfl) ⟨(wrap_i64 (e := (k : Int) + 1) (by constructor <;> omega)), trivial⟩ ?_))
      refine A.tn ?_
      have hv6 : (((slps false (l.take k)) + x4.kc) % 340282366920938463463374607431768211456) = (slps false (l.take (k + 1))) := by (rw [take_snoc (by assumption), slps_snoc]; have hc_ := hR _ (List.mem_of_getElem? (by assumption)); obtain ⟨q1_, q2_, q3_⟩ := cv_nn hc_; have h1_ := slV_rng (st := false) hc_; have h2_ := slps_rng (st := false) (take_ok hR k) (by simp; omega); (rw [slV_f (by assumption)] at h1_ ⊢; (try rw [if_pos (by assumption)] at h1_ ⊢); (try rw [if_neg (by rw [(by assumption : (st && _) = false)]; decide)] at h1_ ⊢); (try rw [imax_eq] at h1_ ⊢); exact Int.emod_eq_of_lt (by omega) (by omega)))
      refine A.setH [blk b3 [u_ (nH (slps false (l.take (k + 1)))), u_ (nL (slps false (l.take (k + 1))))] 79, blk b1 [u_ 0, u_ 0] 79, blk b2 [u_ 0, u_ 0] 79, blk b5 (encCv x4) 43] (cc (blkC (cc (congrArg u_ (by rw [hv6] : (nH (((slps false (l.take k)) + x4.kc) % 340282366920938463463374607431768211456)) = (nH (slps false (l.take (k + 1)))))) (cc (congrArg u_ (by rw [hv6] : (nL (((slps false (l.take k)) + x4.kc) % 340282366920938463463374607431768211456)) = (nL (slps false (l.take (k + 1)))))) rfl))) rfl) ?_
      refine A.next (k + 1) (by omega) (by (simp; omega)) ?_
      exact A.hK [0, 0, 0]
    have p2 := e2; try simp only [nrm] at p2
    refine A.skip (A.bn (tr (A.gk [.w ((k : Int) + 1), .p] [7, 15] [(10, i_ ((k : Int) + 1))] [] (fun κ => (IntKind.i64.wrap ((k : Int) + 1) = ((k : Int) + 1)) ∧ True) ⟨(wrap_i64 (e := (k : Int) + 1) (by constructor <;> omega)), trivial⟩ ?_)))
    refine A.tn ?_
    have hv7 : (slps false (l.take k)) = (slps false (l.take (k + 1))) := by (rw [take_snoc (by assumption), slps_snoc]; have hc_ := hR _ (List.mem_of_getElem? (by assumption)); obtain ⟨q1_, q2_, q3_⟩ := cv_nn hc_; have h1_ := slV_rng (st := false) hc_; have h2_ := slps_rng (st := false) (take_ok hR k) (by simp; omega); (rw [slV_0 (by assumption)]; omega))
    refine A.setH [blk b3 [u_ (nH (slps false (l.take (k + 1)))), u_ (nL (slps false (l.take (k + 1))))] 79, blk b1 [u_ 0, u_ 0] 79, blk b2 [u_ 0, u_ 0] 79, blk b5 (encCv x4) 43] (cc (blkC (cc (congrArg u_ (by rw [hv7] : (nH (slps false (l.take k))) = (nH (slps false (l.take (k + 1)))))) (cc (congrArg u_ (by rw [hv7] : (nL (slps false (l.take k))) = (nL (slps false (l.take (k + 1)))))) rfl))) rfl) ?_
    refine A.next (k + 1) (by omega) (by (simp; omega)) ?_
    exact A.hK [0, 0, 0]
  have p1 := of_decide_eq_false e1
  refine A.exit (A.te (A.te (A.bh (tsr (A.gs [.ld 0, .st 2] [1, 5, 8, 9, 10, 11] [] [(2, blk b2 [u_ (nH (slps false (l.take k))), u_ (nL (slps false (l.take k)))] 79)] [b3, b2] ?_)))))
  refine A.tn (A.ret (A.post [(.agg #[u_ (nH (slps false (l.take k))), u_ (nL (slps false (l.take k)))])] (fun aa ww rr ss => ⟨rv_cellN (vs := [u_ (nH (slps false (l.take k))), u_ (nL (slps false (l.take k)))]) rr ss rfl (by kernel_rfl) (reads_blk (i := 2) rfl rfl), trivial⟩) (A.back (by kernel_rfl) ?_)))
  refine A.items [blk b1 [u_ 0, u_ 0] 79] (.cons _ (.cons_cons _ (.cons _ (List.Sublist.slnil)))) ?_
  refine A.goAS [.st 0] [(2, p_ b1)] [blk b1 [u_ (nH (slps false (l.take k))), u_ (nL (slps false (l.take k)))] 79] [b1] T0 (by kernel_rfl) trivial ?_
  refine A.tn (A.ret (A.postQ [(.agg #[u_ (nH (slps false (l.take k))), u_ (nL (slps false (l.take k)))])] (fun aa ww rr ss => ⟨rv_cellN (vs := [u_ (nH (slps false (l.take k))), u_ (nL (slps false (l.take k)))]) rr ss rfl (by kernel_rfl) (reads_blk (i := 0) rfl rfl), trivial⟩) ?_))
  show ((.agg #[u_ (nH (slps false (l.take k))), u_ (nL (slps false (l.take k)))]) : Value) = (.agg #[u_ (nH (slps false l)), u_ (nL (slps false l))])
  (have hk2 : k = l.length := by omega); subst hk2; rw [List.take_length]

theorem rssl_spec (al : Option Addr) (l : List Cv) (cl : Nat) (st : Bool) (hl : l.length ≤ 1000) (hR : ∀ v ∈ l, CvOk v) (w : World) (r0 : arrAt w al (V.flat encCv l)) :
    Calls Try.prog 49 #[vS al l cl, b_ st] w fun e w' => e = .returned (.agg #[u_ (dA (slps st l)), u_ (dB (slps st l)), u_ (dC (slps st l)), u_ (dD (slps st l))]) ∧ Fr [] w w' := by
  refine calls_of (args := [vS al l cl, b_ st]) (penv [vS al l cl, b_ st]) [] [] Try.func49 rfl rfl (look_penv _) (HS.nil w) ?_
  refine A.sr (A.n1 [.al] [] (fun b1 => [(4, p_ b1)]) (fun b1 => blk b1 [u_ 0, u_ 0, u_ 0, u_ 0] 36) ?_)
  intro b1
  refine tsr (A.g1 [.p, .al, .st 1] [] (fun b2 => [(5, p_ b2)]) (fun b2 => []) (fun b2 => blk b2 [u_ 0, u_ 0, u_ 0, u_ 0] 36) (fun b2 => [b2]) ?_)
  intro b2
  refine A.tn (A.seq (A.sr (A.g [.p, .p, .p] [0] [(10, vS al l cl), (11, c_ l.length), (12, i_ 0)] ?_)))
  refine A.tn (A.block (A.setH [blk b1 [u_ 0, u_ 0, u_ 0, u_ 0] 36, blk b2 [u_ (dA (slps st (l.take 0))), u_ (dB (slps st (l.take 0))), u_ (dC (slps st (l.take 0))), u_ (dD (slps st (l.take 0)))] 36] (cc rfl (cc (blkC (cc (congrArg u_ (by (simp [svs, slps, nH, nL, dA, dB, dC, dD]) : 0 = (dA (slps st (l.take 0))))) (cc (congrArg u_ (by (simp [svs, slps, nH, nL, dA, dB, dC, dD]) : 0 = (dB (slps st (l.take 0))))) (cc (congrArg u_ (by (simp [svs, slps, nH, nL, dA, dB, dC, dD]) : 0 = (dC (slps st (l.take 0))))) (cc (congrArg u_ (by (simp [svs, slps, nH, nL, dA, dB, dC, dD]) : 0 = (dD (slps st (l.take 0))))) rfl))))) rfl)) ?_))
  refine A.loop (fun (zz : Nat) => match zz with | k => [(1, b_ st), (4, p_ b1), (5, p_ b2), (10, vS al l cl), (11, c_ l.length), (12, c_ k)]) (fun (zz : Nat) => match zz with | k => [blk b2 [u_ (dA (slps st (l.take k))), u_ (dB (slps st (l.take k))), u_ (dC (slps st (l.take k))), u_ (dD (slps st (l.take k)))] 36, blk b1 [u_ 0, u_ 0, u_ 0, u_ 0] 36]) (fun (zz : Nat) => match zz with | k => (k ≤ l.length)) (fun (zz : Nat) => match zz with | k => l.length - k) (0 : Nat) (by omega) ?_ ?_
  · exact A.hK [1, 0]
  rintro k hk
  have hk : k ≤ l.length := hk
  have hq := slps_rng (st := st) (take_ok hR k) (by simp; omega)
  refine A.sr (A.g [.p] [] [(13, b_ (decide ((k : Int) < (l.length : Int))))] ?_)
  refine A.tn (A.seq (A.cn (decide ((k : Int) < (l.length : Int))) (fun e1 => ?_) (fun e1 => ?_)))
  · have p1 := of_decide_eq_true e1
    refine A.skip (A.tn (A.seq (A.block (A.sr (A.gpk [.ix] [13] [(14, (.pointer (some ((at0 al).add (k * 3)))))] [] (fun κ => κ.ix al l.length (k : Int) ∧ True) ⟨(ixOf encCv_len (by decide) (rd_old r0 (by simp [feet])) (by omega)), trivial⟩ ?_)))))
    obtain ⟨x3, hx3⟩ : ∃ x, (l)[k]? = some x := ⟨_, List.getElem?_eq_getElem (by omega)⟩
    refine A.goA1 [.rd (encCv x3), .al, .st 2] [1, 4, 5, 10, 11, 12, 7] (fun b4 => [(1, b_ st), (4, p_ b1), (5, p_ b2), (10, vS al l cl), (11, c_ l.length), (12, c_ k), (7, p_ b4)]) (fun b4 => [blk b2 [u_ (dA (slps st (l.take k))), u_ (dB (slps st (l.take k))), u_ (dC (slps st (l.take k))), u_ (dD (slps st (l.take k)))] 36, blk b1 [u_ 0, u_ 0, u_ 0, u_ 0] 36, blk b4 (encCv x3) 43]) (fun b4 => [b4]) (fun _ => (fun κ => κ.rd ((at0 al).add (k * 3)) (encCv x3) ∧ True)) (fun _ => by kernel_rfl) (fun b4 => ⟨(reads_at0 (vs := (encCv x3)) encCv_len (rd_old r0 (by simp [feet])) hx3 (Nat.le_of_ble_eq_true rfl) rfl), trivial⟩) ?_
    intro b4
    refine tsr (A.gk [.p, .ld 2, .p] [] [(8, u_ x3.kc)] [b4] T0 trivial ?_)
    refine A.tn (A.seq (A.sr (A.gk [.p, .p, .o, .p, .ld 2, .p, .p, .cl] [] [(24, b_ (st && (decide (x3.ka > x3.kc))))] [b4] T0 trivial ?_)))
    refine A.tn (A.cn (st && (decide (x3.ka > x3.kc))) (fun e2 => ?_) (fun e2 => ?_))
    · have p2 := e2; try simp only [nrm] at p2
      refine A.region (A.gk [.p, .ld 2, .p] [24] [(8, u_ x3.ka)] [b4] T0 trivial ?_)
      refine tsr (A.gk [.ld 2, .cq (i_ (ofR x3.ka x3.kb x3.kc)), .p] [7] [(29, b_ ((ofR x3.ka x3.kb x3.kc) != 0))] [b4] (fun κ => κ.call 97 [(.agg (encCv x3).toArray)] (i_ (ofR x3.ka x3.kb x3.kc)) ∧ True) ⟨(fun ww ss => rof_spec x3.ka x3.kb x3.kc ww), trivial⟩ ?_)
      refine A.tn (A.cn ((ofR x3.ka x3.kb x3.kc) != 0) (fun e3 => ?_) (fun e3 => ?_))
      · have p3 := e3; try simp only [nrm] at p3
        refine A.draw2 [4] 5 (by kernel_rfl) ?_
        refine A.dP 1 [.ld 0, .p, .cq (.agg #[u_ (dA x3.ka), u_ (dB x3.ka), u_ (dC x3.ka), u_ (dD x3.ka)]), .cq (.agg #[u_ (dA (((slps st (l.take k)) + x3.ka) % 340282366920938463463374607431768211456)), u_ (dB (((slps st (l.take k)) + x3.ka) % 340282366920938463463374607431768211456)), u_ (dC (((slps st (l.take k)) + x3.ka) % 340282366920938463463374607431768211456)), u_ (dD (((slps st (l.take k)) + x3.ka) % 340282366920938463463374607431768211456))])] [0, 1, 2, 3] [8, 29] [(33, (.agg #[u_ (dA (((slps st (l.take k)) + x3.ka) % 340282366920938463463374607431768211456)), u_ (dB (((slps st (l.take k)) + x3.ka) % 340282366920938463463374607431768211456)), u_ (dC (((slps st (l.take k)) + x3.ka) % 340282366920938463463374607431768211456)), u_ (dD (((slps st (l.take k)) + x3.ka) % 340282366920938463463374607431768211456))]))] [b2] (fun κ => κ.call 98 [u_ x3.ka] (.agg #[u_ (dA x3.ka), u_ (dB x3.ka), u_ (dC x3.ka), u_ (dD x3.ka)]) ∧ κ.call 53 [(.agg #[u_ (dA (slps st (l.take k))), u_ (dB (slps st (l.take k))), u_ (dC (slps st (l.take k))), u_ (dD (slps st (l.take k)))]), (.agg #[u_ (dA x3.ka), u_ (dB x3.ka), u_ (dC x3.ka), u_ (dD x3.ka)])] (.agg #[u_ (dA (((slps st (l.take k)) + x3.ka) % 340282366920938463463374607431768211456)), u_ (dB (((slps st (l.take k)) + x3.ka) % 340282366920938463463374607431768211456)), u_ (dC (((slps st (l.take k)) + x3.ka) % 340282366920938463463374607431768211456)), u_ (dD (((slps st (l.take k)) + x3.ka) % 340282366920938463463374607431768211456))]) ∧ True) ⟨(fun ww ss => rOf_spec x3.ka (by (obtain ⟨q1_, q2_, q3_⟩ := cv_nn (hR _ (List.mem_of_getElem? (by assumption))); exact q1_)) ww), (fun ww ss => rPlus_spec (slps st (l.take k)) x3.ka (by (have h_ := slps_rng (st := st) (take_ok hR k) (by simp; omega); unfold W128; omega)) (by (obtain ⟨q1_, q2_, q3_⟩ := cv_nn (hR _ (List.mem_of_getElem? (by assumption))); unfold W128; omega)) ww), trivial⟩ ?_
        refine A.only2 4 rfl (by kernel_rfl) (A.store 0 (vs := [u_ (dA (((slps st (l.take k)) + x3.ka) % 340282366920938463463374607431768211456)), u_ (dB (((slps st (l.take k)) + x3.ka) % 340282366920938463463374607431768211456)), u_ (dC (((slps st (l.take k)) + x3.ka) % 340282366920938463463374607431768211456)), u_ (dD (((slps st (l.take k)) + x3.ka) % 340282366920938463463374607431768211456))]) [blk b2 [u_ (dA (((slps st (l.take k)) + x3.ka) % 340282366920938463463374607431768211456)), u_ (dB (((slps st (l.take k)) + x3.ka) % 340282366920938463463374607431768211456)), u_ (dC (((slps st (l.take k)) + x3.ka) % 340282366920938463463374607431768211456)), u_ (dD (((slps st (l.take k)) + x3.ka) % 340282366920938463463374607431768211456))] 36, blk b1 [u_ 0, u_ 0, u_ 0, u_ 0] 36, blk b4 (encCv x3) 43] (by kernel_rfl) rfl rfl rfl rfl (by kernel_rfl) rfl rfl (by kernel_rfl) rfl ?_)
        refine A.stage ?_
        refine A.fin2 (by kernel_rfl) ?_
        refine A.bn (tr (A.goA [.w ((k : Int) + 1), .p] [(1, b_ st), (4, p_ b1), (5, p_ b2), (10, vS al l cl), (11, c_ l.length), (12, i_ ((k : Int) + 1))] [] (fun κ => (IntKind.i64.wrap ((k : Int) + 1) = ((k : Int) + 1)) ∧ True) (by kernel_rfl) ⟨(wrap_i64 (e := (k : Int) + 1) (by constructor <;> omega)), trivial⟩ ?_))
        refine A.tn ?_
        have hv5 : (((slps st (l.take k)) + x3.ka) % 340282366920938463463374607431768211456) = (slps st (l.take (k + 1))) := by (rw [take_snoc (by assumption), slps_snoc]; have hc_ := hR _ (List.mem_of_getElem? (by assumption)); obtain ⟨q1_, q2_, q3_⟩ := cv_nn hc_; have h1_ := slV_rng (st := st) hc_; have h2_ := slps_rng (st := st) (take_ok hR k) (by simp; omega); (rw [slV_s (by (rw [ofC_ofR q1_.1 q2_.1 q3_.1]; assumption))] at h1_ ⊢; (try rw [if_pos (by assumption)] at h1_ ⊢); (try rw [if_neg (by rw [(by assumption : (st && _) = false)]; decide)] at h1_ ⊢); (try rw [imax_eq] at h1_ ⊢); exact Int.emod_eq_of_lt (by omega) (by omega)))
        refine A.setH [blk b2 [u_ (dA (slps st (l.take (k + 1)))), u_ (dB (slps st (l.take (k + 1)))), u_ (dC (slps st (l.take (k + 1)))), u_ (dD (slps st (l.take (k + 1))))] 36, blk b1 [u_ 0, u_ 0, u_ 0, u_ 0] 36, blk b4 (encCv x3) 43] (cc (blkC (cc (congrArg u_ (by rw [hv5] : (dA (((slps st (l.take k)) + x3.ka) % 340282366920938463463374607431768211456)) = (dA (slps st (l.take (k + 1)))))) (cc (congrArg u_ (by rw [hv5] : (dB (((slps st (l.take k)) + x3.ka) % 340282366920938463463374607431768211456)) = (dB (slps st (l.take (k + 1)))))) (cc (congrArg u_ (by rw [hv5] : (dC (((slps st (l.take k)) + x3.ka) % 340282366920938463463374607431768211456)) = (dC (slps st (l.take (k + 1)))))) (cc (congrArg u_ (by rw [hv5] : (dD (((slps st (l.take k)) + x3.ka) % 340282366920938463463374607431768211456)) = (dD (slps st (l.take (k + 1)))))) rfl))))) rfl) ?_
        refine A.next (k + 1) (by omega) (by (simp; omega)) ?_
        exact A.hK [0, 0]
      have p3 := e3; try simp only [nrm] at p3
      refine A.skip (A.bn (tr (A.gk [.w ((k : Int) + 1), .p] [8, 29] [(12, i_ ((k : Int) + 1))] [] (fun κ => (IntKind.i64.wrap ((k : Int) + 1) = ((k : Int) + 1)) ∧ True) ⟨(wrap_i64 (e := (k : Int) + 1) (by constructor <;> omega)), trivial⟩ ?_)))
      refine A.tn ?_
      have hv6 : (slps st (l.take k)) = (slps st (l.take (k + 1))) := by (rw [take_snoc (by assumption), slps_snoc]; have hc_ := hR _ (List.mem_of_getElem? (by assumption)); obtain ⟨q1_, q2_, q3_⟩ := cv_nn hc_; have h1_ := slV_rng (st := st) hc_; have h2_ := slps_rng (st := st) (take_ok hR k) (by simp; omega); (rw [slV_0 (by (rw [ofC_ofR q1_.1 q2_.1 q3_.1]; assumption))]; omega))
      refine A.setH [blk b2 [u_ (dA (slps st (l.take (k + 1)))), u_ (dB (slps st (l.take (k + 1)))), u_ (dC (slps st (l.take (k + 1)))), u_ (dD (slps st (l.take (k + 1))))] 36, blk b1 [u_ 0, u_ 0, u_ 0, u_ 0] 36, blk b4 (encCv x3) 43] (cc (blkC (cc (congrArg u_ (by rw [hv6] : (dA (slps st (l.take k))) = (dA (slps st (l.take (k + 1)))))) (cc (congrArg u_ (by rw [hv6] : (dB (slps st (l.take k))) = (dB (slps st (l.take (k + 1)))))) (cc (congrArg u_ (by rw [hv6] : (dC (slps st (l.take k))) = (dC (slps st (l.take (k + 1)))))) (cc (congrArg u_ (by rw [hv6] : (dD (slps st (l.take k))) = (dD (slps st (l.take (k + 1)))))) rfl))))) rfl) ?_
      refine A.next (k + 1) (by omega) (by (simp; omega)) ?_
      exact A.hK [0, 0]
    have p2 := e2; try simp only [nrm] at p2
    refine A.skip (tsr (A.gk [.ld 2, .cq (i_ (ofR x3.ka x3.kb x3.kc)), .p] [7, 24] [(29, b_ ((ofR x3.ka x3.kb x3.kc) != 0))] [b4] (fun κ => κ.call 97 [(.agg (encCv x3).toArray)] (i_ (ofR x3.ka x3.kb x3.kc)) ∧ True) ⟨(fun ww ss => rof_spec x3.ka x3.kb x3.kc ww), trivial⟩ ?_))
    refine A.tn (A.cn ((ofR x3.ka x3.kb x3.kc) != 0) (fun e4 => ?_) (fun e4 => ?_))
    · have p4 := e4; try simp only [nrm] at p4
      refine A.draw2 [4] 5 (by kernel_rfl) ?_
      refine A.dP 1 [.ld 0, .p, .cq (.agg #[u_ (dA x3.kc), u_ (dB x3.kc), u_ (dC x3.kc), u_ (dD x3.kc)]), .cq (.agg #[u_ (dA (((slps st (l.take k)) + x3.kc) % 340282366920938463463374607431768211456)), u_ (dB (((slps st (l.take k)) + x3.kc) % 340282366920938463463374607431768211456)), u_ (dC (((slps st (l.take k)) + x3.kc) % 340282366920938463463374607431768211456)), u_ (dD (((slps st (l.take k)) + x3.kc) % 340282366920938463463374607431768211456))])] [0, 1, 2, 3] [8, 29] [(33, (.agg #[u_ (dA (((slps st (l.take k)) + x3.kc) % 340282366920938463463374607431768211456)), u_ (dB (((slps st (l.take k)) + x3.kc) % 340282366920938463463374607431768211456)), u_ (dC (((slps st (l.take k)) + x3.kc) % 340282366920938463463374607431768211456)), u_ (dD (((slps st (l.take k)) + x3.kc) % 340282366920938463463374607431768211456))]))] [b2] (fun κ => κ.call 98 [u_ x3.kc] (.agg #[u_ (dA x3.kc), u_ (dB x3.kc), u_ (dC x3.kc), u_ (dD x3.kc)]) ∧ κ.call 53 [(.agg #[u_ (dA (slps st (l.take k))), u_ (dB (slps st (l.take k))), u_ (dC (slps st (l.take k))), u_ (dD (slps st (l.take k)))]), (.agg #[u_ (dA x3.kc), u_ (dB x3.kc), u_ (dC x3.kc), u_ (dD x3.kc)])] (.agg #[u_ (dA (((slps st (l.take k)) + x3.kc) % 340282366920938463463374607431768211456)), u_ (dB (((slps st (l.take k)) + x3.kc) % 340282366920938463463374607431768211456)), u_ (dC (((slps st (l.take k)) + x3.kc) % 340282366920938463463374607431768211456)), u_ (dD (((slps st (l.take k)) + x3.kc) % 340282366920938463463374607431768211456))]) ∧ True) ⟨(fun ww ss => rOf_spec x3.kc (by (obtain ⟨q1_, q2_, q3_⟩ := cv_nn (hR _ (List.mem_of_getElem? (by assumption))); exact q3_)) ww), (fun ww ss => rPlus_spec (slps st (l.take k)) x3.kc (by (have h_ := slps_rng (st := st) (take_ok hR k) (by simp; omega); unfold W128; omega)) (by (obtain ⟨q1_, q2_, q3_⟩ := cv_nn (hR _ (List.mem_of_getElem? (by assumption))); unfold W128; omega)) ww), trivial⟩ ?_
      refine A.only2 4 rfl (by kernel_rfl) (A.store 0 (vs := [u_ (dA (((slps st (l.take k)) + x3.kc) % 340282366920938463463374607431768211456)), u_ (dB (((slps st (l.take k)) + x3.kc) % 340282366920938463463374607431768211456)), u_ (dC (((slps st (l.take k)) + x3.kc) % 340282366920938463463374607431768211456)), u_ (dD (((slps st (l.take k)) + x3.kc) % 340282366920938463463374607431768211456))]) [blk b2 [u_ (dA (((slps st (l.take k)) + x3.kc) % 340282366920938463463374607431768211456)), u_ (dB (((slps st (l.take k)) + x3.kc) % 340282366920938463463374607431768211456)), u_ (dC (((slps st (l.take k)) + x3.kc) % 340282366920938463463374607431768211456)), u_ (dD (((slps st (l.take k)) + x3.kc) % 340282366920938463463374607431768211456))] 36, blk b1 [u_ 0, u_ 0, u_ 0, u_ 0] 36, blk b4 (encCv x3) 43] (by kernel_rfl) rfl rfl rfl rfl (by kernel_rfl) rfl rfl (by kernel_rfl) rfl ?_)
      refine A.stage ?_
      refine A.fin2 (by kernel_rfl) ?_
      refine A.bn (tr (A.goA [.w ((k : Int) + 1), .p] [(1, b_ st), (4, p_ b1), (5, p_ b2), (10, vS al l cl), (11, c_ l.length), (12, i_ ((k : Int) + 1))] [] (fun κ => (IntKind.i64.wrap ((k : Int) + 1) = ((k : Int) + 1)) ∧ True) (by kernel_rfl) ⟨(wrap_i64 (e := (k : Int) + 1) (by constructor <;> omega)), trivial⟩ ?_))
      refine A.tn ?_
      have hv7 : (((slps st (l.take k)) + x3.kc) % 340282366920938463463374607431768211456) = (slps st (l.take (k + 1))) := by (rw [take_snoc (by assumption), slps_snoc]; have hc_ := hR _ (List.mem_of_getElem? (by assumption)); obtain ⟨q1_, q2_, q3_⟩ := cv_nn hc_; have h1_ := slV_rng (st := st) hc_; have h2_ := slps_rng (st := st) (take_ok hR k) (by simp; omega); (rw [slV_s (by (rw [ofC_ofR q1_.1 q2_.1 q3_.1]; assumption))] at h1_ ⊢; (try rw [if_pos (by assumption)] at h1_ ⊢); (try rw [if_neg (by rw [(by assumption : (st && _) = false)]; decide)] at h1_ ⊢); (try rw [imax_eq] at h1_ ⊢); exact Int.emod_eq_of_lt (by omega) (by omega)))
      refine A.setH [blk b2 [u_ (dA (slps st (l.take (k + 1)))), u_ (dB (slps st (l.take (k + 1)))), u_ (dC (slps st (l.take (k + 1)))), u_ (dD (slps st (l.take (k + 1))))] 36, blk b1 [u_ 0, u_ 0, u_ 0, u_ 0] 36, blk b4 (encCv x3) 43] (cc (blkC (cc (congrArg u_ (by rw [hv7] : (dA (((slps st (l.take k)) + x3.kc) % 340282366920938463463374607431768211456)) = (dA (slps st (l.take (k + 1)))))) (cc (congrArg u_ (by rw [hv7] : (dB (((slps st (l.take k)) + x3.kc) % 340282366920938463463374607431768211456)) = (dB (slps st (l.take (k + 1)))))) (cc (congrArg u_ (by rw [hv7] : (dC (((slps st (l.take k)) + x3.kc) % 340282366920938463463374607431768211456)) = (dC (slps st (l.take (k + 1)))))) (cc (congrArg u_ (by rw [hv7] : (dD (((slps st (l.take k)) + x3.kc) % 340282366920938463463374607431768211456)) = (dD (slps st (l.take (k + 1)))))) rfl))))) rfl) ?_
      refine A.next (k + 1) (by omega) (by (simp; omega)) ?_
      exact A.hK [0, 0]
    have p4 := e4; try simp only [nrm] at p4
    refine A.skip (A.bn (tr (A.gk [.w ((k : Int) + 1), .p] [8, 29] [(12, i_ ((k : Int) + 1))] [] (fun κ => (IntKind.i64.wrap ((k : Int) + 1) = ((k : Int) + 1)) ∧ True) ⟨(wrap_i64 (e := (k : Int) + 1) (by constructor <;> omega)), trivial⟩ ?_)))
    refine A.tn ?_
    have hv8 : (slps st (l.take k)) = (slps st (l.take (k + 1))) := by (rw [take_snoc (by assumption), slps_snoc]; have hc_ := hR _ (List.mem_of_getElem? (by assumption)); obtain ⟨q1_, q2_, q3_⟩ := cv_nn hc_; have h1_ := slV_rng (st := st) hc_; have h2_ := slps_rng (st := st) (take_ok hR k) (by simp; omega); (rw [slV_0 (by (rw [ofC_ofR q1_.1 q2_.1 q3_.1]; assumption))]; omega))
    refine A.setH [blk b2 [u_ (dA (slps st (l.take (k + 1)))), u_ (dB (slps st (l.take (k + 1)))), u_ (dC (slps st (l.take (k + 1)))), u_ (dD (slps st (l.take (k + 1))))] 36, blk b1 [u_ 0, u_ 0, u_ 0, u_ 0] 36, blk b4 (encCv x3) 43] (cc (blkC (cc (congrArg u_ (by rw [hv8] : (dA (slps st (l.take k))) = (dA (slps st (l.take (k + 1)))))) (cc (congrArg u_ (by rw [hv8] : (dB (slps st (l.take k))) = (dB (slps st (l.take (k + 1)))))) (cc (congrArg u_ (by rw [hv8] : (dC (slps st (l.take k))) = (dC (slps st (l.take (k + 1)))))) (cc (congrArg u_ (by rw [hv8] : (dD (slps st (l.take k))) = (dD (slps st (l.take (k + 1)))))) rfl))))) rfl) ?_
    refine A.next (k + 1) (by omega) (by (simp; omega)) ?_
    exact A.hK [0, 0]
  have p1 := of_decide_eq_false e1
  refine A.exit (A.te (A.te (A.bh (tsr (A.gs [.ld 0, .st 1] [1, 5, 10, 11, 12, 13] [] [(1, blk b1 [u_ (dA (slps st (l.take k))), u_ (dB (slps st (l.take k))), u_ (dC (slps st (l.take k))), u_ (dD (slps st (l.take k)))] 36)] [b2, b1] ?_)))))
  refine A.tn (A.ret (A.postQ [(.agg #[u_ (dA (slps st (l.take k))), u_ (dB (slps st (l.take k))), u_ (dC (slps st (l.take k))), u_ (dD (slps st (l.take k)))])] (fun aa ww rr ss => ⟨rv_cellN (vs := [u_ (dA (slps st (l.take k))), u_ (dB (slps st (l.take k))), u_ (dC (slps st (l.take k))), u_ (dD (slps st (l.take k)))]) rr ss rfl (by kernel_rfl) (reads_blk (i := 1) rfl rfl), trivial⟩) ?_))
  show ((.agg #[u_ (dA (slps st (l.take k))), u_ (dB (slps st (l.take k))), u_ (dC (slps st (l.take k))), u_ (dD (slps st (l.take k)))]) : Value) = (.agg #[u_ (dA (slps st l)), u_ (dB (slps st l)), u_ (dC (slps st l)), u_ (dD (slps st l))])
  (have hk2 : k = l.length := by omega); subst hk2; rw [List.take_length]
end Go.Proofs.Ytinnnoimmioaiaa
