/- What the functions of this layer do, proved operation by operation, for all arguments, under the conditions that each theorem states. -/
import Derived.Test.YtinnnoimmioaiaaProg
import Derived.Test.YtinnnoimmioaiaaAdmit3
namespace Go.Proofs.Ytinnnoimmioaiaa
open Go V
set_option linter.unusedVariables false
set_option linter.unusedSimpArgs false
theorem perm_sumI {a b : List Int} (h : a.Perm b) : a.sum = b.sum := by
  induction h with
  | nil => rfl
  | cons x _ ih => simp [ih]
  | swap x y l => simp; omega
  | trans _ _ h1 h2 => rw [h1, h2]
theorem svs_perm {l m : List Cv} (h : l.Perm m) (t : Int) : svs l t = svs m t := perm_sumI (h.map _)
theorem slps_perm {l m : List Cv} (h : l.Perm m) (st : Bool) : slps st l = slps st m := perm_sumI (h.map _)
theorem kraw_perm {l m : List Cv} (h : l.Perm m) : (kraw l).Perm (kraw m) := (h.filter _).map _
theorem knC_perm {l m : List Cv} (h : l.Perm m) : knC l = knC m := by
  obtain ⟨h1, h2⟩ := cmp_sort (kraw l)
  obtain ⟨h3, h4⟩ := cmp_sort (kraw m)
  exact rsi_ext h1 h3 fun y => (h2 y).trans (((kraw_perm h).mem_iff).trans (h4 y).symm)
theorem any_perm {l m : List Cv} (h : l.Perm m) (f : Cv → Bool) : l.any f = m.any f := by
  rw [Bool.eq_iff_iff, List.any_eq_true, List.any_eq_true]
  constructor
  · rintro ⟨x, hx, e⟩; exact ⟨x, h.mem_iff.1 hx, e⟩
  · rintro ⟨x, hx, e⟩; exact ⟨x, h.mem_iff.2 hx, e⟩
theorem fitE_perm {l m : List Cv} (h : l.Perm m) (t : Int) : fitE t l = fitE t m := by
  have e1 : mayE t l = mayE t m := by unfold mayE; rw [any_perm h]
  have e2 : abv l t = abv m t := by funext k; unfold abv; rw [svs_perm h]
  unfold fitE fullW; rw [e1, knC_perm h, e2, slps_perm h]
theorem sum_sub {f : Cv → Int} {a b : List Cv} (h : a.Sublist b) (hp : ∀ v ∈ b, 0 ≤ f v) : (a.map f).sum ≤ (b.map f).sum := by
  induction h with
  | slnil => simp
  | cons x _ ih => have := ih fun v hv => hp v (by simp [hv]); have := hp x (by simp); simp only [List.map_cons, List.sum_cons]; omega
  | cons_cons x _ ih => have := ih fun v hv => hp v (by simp [hv]); simp only [List.map_cons, List.sum_cons]; omega
theorem fit_of {t : Int} {l : List Cv} (hm : mayE t l = 0) (hk : ∀ y ∈ knC l, svs l y * t ≤ 65536 * y) (hs : slps false l * t ≤ 65536) : fitE t l = 0 := by
  unfold fitE; rw [if_neg (by omega), if_neg]
  unfold fullW; rw [if_neg (by omega), List.find?_eq_none.2 (fun y hy => by have := hk y hy; unfold abv; simp; omega)]
  simp; omega
theorem fit_sub {t : Int} {a b : List Cv} (h : a.Sublist b) (hR : ∀ v ∈ b, CvOk v) (hb : fitE t b = 0) : fitE t a = 0 := by
  obtain ⟨h1, h2, h3⟩ := fit_0 hb
  obtain ⟨ht, hok⟩ := may_0 h1
  have hRa : ∀ v ∈ a, CvOk v := fun v hv => hR v (h.subset hv)
  refine fit_of ?_ (fun y hy => ?_) ?_
  · unfold mayE; rw [if_neg (by omega), if_neg]
    intro g; obtain ⟨v, hv, e⟩ := List.any_eq_true.1 g
    have := hok v (h.subset hv); unfold badV at e; simp at e; exact this e
  · have hy2 := knC_rng hRa y hy
    have hm : y ∈ knC b := by
      refine ((cmp_sort (kraw b)).2 y).2 ?_
      have := ((cmp_sort (kraw a)).2 y).1 hy
      exact ((h.filter _).map _).subset this
    have h4 := h2 y hm
    have h5 : svs a y ≤ svs b y := sum_sub h fun v hv => by obtain ⟨q1, q2, q3⟩ := cv_nn (hR v hv); exact (sv_rng q1.1 q2.1 q3.1 hy2).1
    have := Int.mul_le_mul_of_nonneg_right h5 (show 0 ≤ t by omega)
    omega
  · have h5 : slps false a ≤ slps false b := sum_sub h fun v hv => (slV_rng (hR v hv)).1
    have := Int.mul_le_mul_of_nonneg_right h5 (show 0 ≤ t by omega)
    omega
theorem turn_perm (l : List Cv) (n : Nat) : (l.drop n ++ l.take n).Perm l := by
  have h := List.perm_append_comm (l₁ := l.drop n) (l₂ := l.take n)
  rwa [List.take_append_drop] at h
theorem less_2 {t : Int} {l : List Cv} {n : Nat} (hR : ∀ v ∈ l, CvOk v) (h : fitE t l = 0) : fitE t ((l.drop n ++ l.take n).drop 1) = 0 :=
  fit_sub (List.drop_sublist 1 _) (fun v hv => hR v ((turn_perm l n).mem_iff.1 hv)) (by rw [fitE_perm (turn_perm l n)]; exact h)

set_option maxHeartbeats 4000000 in
set_option maxRecDepth 100000 in
theorem admitLess_walk (t : Int) (al : Option Addr) (l : List Cv) (cl : Nat) (tn : Int) (hR : ∀ v ∈ l, CvOk v) (hcap : l.length ≤ cl) (w : World) (r0 : arrAt w al (V.flat encCv l)) :
    Calls Try.prog 5 #[i_ t, vS al l cl, i_ tn] w fun e w' => e = .returned (b_ true) ∧ Fr [] w w' := by
  refine calls_of (args := [i_ t, vS al l cl, i_ tn]) (penv [i_ t, vS al l cl, i_ tn]) [] [] Try.func5 rfl rfl (look_penv _) (HS.nil w) ?_
  refine A.norm [(0, i_ t), (1, vS al l cl), (2, i_ tn)] [] (by exact ⟨rfl, rfl, rfl, trivial⟩) rfl ?_
  refine A.seq (A.region (A.goA [.p] [(0, i_ t), (1, vS al l cl), (2, i_ tn), (6, b_ false)] [] T0 (by kernel_rfl) trivial ?_))
  refine A.tn (A.seq (A.seq (A.region (A.goA [.p, .p, .p, .p, .o, .p, .p, .p, .cl, .p, .o, .p, .p, .cl] [(0, i_ t), (1, vS al l cl), (2, i_ tn), (6, b_ false), (20, b_ ((((l.length : Int) == 0) || (decide ((l.length : Int) > 64))) || (decide (tn < 0))))] [] T0 (by kernel_rfl) trivial ?_))))
  refine A.tn (A.cond (E := (((l.length : Int) == 0) || (decide ((l.length : Int) > 64))) || (decide (tn < 0))) rfl (fun e1 => ?_) (fun e1 => ?_))
  · skip
    have p1 := e1; try simp only [nrm] at p1
    refine A.seq (A.region (A.goA [.cq (b_ true), .p] [(0, i_ t), (1, vS al l cl), (2, i_ tn), (6, b_ true), (20, b_ ((((l.length : Int) == 0) || (decide ((l.length : Int) > 64))) || (decide (tn < 0))))] [] (fun κ => κ.call 11 [] (b_ true) ∧ True) (by kernel_rfl) ⟨(fun ww ss => whole_spec ww), trivial⟩ ?_))
    refine A.tn (A.ret (A.tr (A.postQ [b_ true] (fun aa ww rr ss => ⟨rv_tmp rr rfl, trivial⟩) ?_)))
    rfl
  · skip
    have p1 := e1; try simp only [nrm] at p1
    refine A.skip (A.tn (A.seq (A.region (A.goP [.p, .p, .p] [(0, i_ t), (1, vS al l cl), (2, i_ tn), (6, b_ false), (20, b_ ((((l.length : Int) == 0) || (decide ((l.length : Int) > 64))) || (decide (tn < 0)))), (22, i_ tn), (24, c_ l.length)] [] T0 (by kernel_rfl) trivial ?_))))
    refine A.cons (A.q (some 25) (i_ (tn.tmod (l.length : Int))) (by kernel_rfl) (qt_rem rfl rfl rfl (by omega)) ?_)
    refine A.goA [.p] [(0, i_ t), (1, vS al l cl), (2, i_ tn), (6, b_ false), (20, b_ ((((l.length : Int) == 0) || (decide ((l.length : Int) > 64))) || (decide (tn < 0)))), (7, i_ (tn.tmod (l.length : Int)))] [] T0 (by kernel_rfl) trivial ?_
    refine A.tn (A.seq ?_)
    obtain ⟨n, hn, hnl⟩ : ∃ n : Nat, tn.tmod (l.length : Int) = (n : Int) ∧ n < l.length := by rw [Int.tmod_eq_emod_of_nonneg (by omega)]; have q1_ := Int.emod_nonneg tn (show (l.length : Int) ≠ 0 by omega); have q2_ := Int.emod_lt_of_pos tn (show (0 : Int) < (l.length : Int) by omega); exact ⟨(tn % (l.length : Int)).toNat, by omega, by omega⟩
    refine A.sub [(0, i_ t), (1, vS al l cl), (2, i_ tn), (6, b_ false), (20, b_ ((((l.length : Int) == 0) || (decide ((l.length : Int) > 64))) || (decide (tn < 0)))), (7, c_ n)] (by exact ⟨rfl, rfl, rfl, rfl, rfl, congrArg (fun z_ => some (i_ z_)) (by exact hn : tn.tmod (l.length : Int) = (n : Int)), trivial⟩) ?_
    refine A.region (A.goA [.p] [(0, i_ t), (1, vS al l cl), (2, i_ tn), (6, b_ false), (20, b_ ((((l.length : Int) == 0) || (decide ((l.length : Int) > 64))) || (decide (tn < 0)))), (7, c_ n), (8, e_)] [] T0 (by kernel_rfl) trivial ?_)
    refine A.tn (A.seq (A.region (A.goP [.p, .p, .p] [(0, i_ t), (1, vS al l cl), (2, i_ tn), (6, b_ false), (20, b_ ((((l.length : Int) == 0) || (decide ((l.length : Int) > 64))) || (decide (tn < 0)))), (7, c_ n), (8, e_), (26, e_), (27, vS al l cl), (28, c_ n)] [] T0 (by kernel_rfl) trivial ?_)))
    refine A.cons (A.q (some 29) (vS (cutA al cl n 3) (l.drop n) (cl - n)) (by kernel_rfl) (qt_dropS (e := 43) (xs := l) (sz := 3) n rfl rfl rfl (by kernel_rfl) (by kernel_rfl) (by first | omega | (simp; omega)) (fun _ _ => hcap)) ?_)
    refine A.cons (A.ownNil 43 3 [sCv none ([] : List Cv) 0] rfl (A.appendC (enc := encCv) (xs := ([] : List Cv)) (l.drop n) 0 30 (e := 43) (z := (.agg #[u_ 0, u_ 0, u_ 0])) (sz := 3) (by_ := 24) (by kernel_rfl) rfl rfl rfl (by kernel_rfl) (by kernel_rfl) (by rfl) (by decide) encCv_len encCv_one rfl (rd_drop encCv_len (rd_old r0 (by simp [feet])) (by first | omega | (simp; omega)) (fun _ _ => hcap)) (by simp; omega) (fun A2 c2 => [sCv A2 (l.drop n) c2]) (fun _ _ => rfl) ?_))
    intro A2 c2
    refine A.goA [.p] [(0, i_ t), (1, vS al l cl), (2, i_ tn), (6, b_ false), (20, b_ ((((l.length : Int) == 0) || (decide ((l.length : Int) > 64))) || (decide (tn < 0)))), (7, c_ n), (8, vS A2 (l.drop n) c2)] [] T0 (by kernel_rfl) trivial ?_
    refine A.tn (A.seq (A.region (A.goP [.p, .p, .p] [(0, i_ t), (1, vS al l cl), (2, i_ tn), (6, b_ false), (20, b_ ((((l.length : Int) == 0) || (decide ((l.length : Int) > 64))) || (decide (tn < 0)))), (7, c_ n), (8, vS A2 (l.drop n) c2), (31, vS A2 (l.drop n) c2), (32, vS al l cl), (33, c_ n)] [] T0 (by kernel_rfl) trivial ?_)))
    refine A.cons (A.q (some 34) (vS al (l.take n) cl) (by kernel_rfl) (qt_takeS (e := 43) (xs := l) (sz := 3) n rfl rfl rfl (by kernel_rfl) (by kernel_rfl) (by first | omega | (simp; omega)) (fun _ _ => hcap)) ?_)
    refine A.cons (A.appendC (enc := encCv) (xs := (l.drop n)) (l.take n) 0 35 (e := 43) (z := (.agg #[u_ 0, u_ 0, u_ 0])) (sz := 3) (by_ := 24) (by kernel_rfl) rfl rfl rfl (by kernel_rfl) (by kernel_rfl) (by rfl) (by decide) encCv_len encCv_one rfl (rd_take encCv_len (rd_old r0 (by simp [feet])) n) (by simp; omega) (fun A3 c3 => [sCv A3 ((l.drop n) ++ (l.take n)) c3]) (fun _ _ => rfl) ?_)
    intro A3 c3
    refine A.goA [.p] [(0, i_ t), (1, vS al l cl), (2, i_ tn), (6, b_ false), (20, b_ ((((l.length : Int) == 0) || (decide ((l.length : Int) > 64))) || (decide (tn < 0)))), (7, c_ n), (8, vS A3 ((l.drop n) ++ (l.take n)) c3)] [] T0 (by kernel_rfl) trivial ?_
    refine A.tn (A.seq (A.seq (A.region (A.goA [.p, .p, .cq (i_ (fitE t ((l.drop n) ++ (l.take n)))), .p, .p, .cq (i_ (fitE t l)), .p] [(0, i_ t), (1, vS al l cl), (2, i_ tn), (6, b_ false), (20, b_ ((((l.length : Int) == 0) || (decide ((l.length : Int) > 64))) || (decide (tn < 0)))), (7, c_ n), (8, vS A3 ((l.drop n) ++ (l.take n)) c3), (42, b_ ((fitE t ((l.drop n) ++ (l.take n))) != (fitE t l)))] [] (fun κ => κ.call 14 [i_ t, vS A3 ((l.drop n) ++ (l.take n)) c3] (i_ (fitE t ((l.drop n) ++ (l.take n)))) ∧ κ.call 14 [i_ t, vS al l cl] (i_ (fitE t l)) ∧ True) (by kernel_rfl) ⟨(fun ww ss => fits_spec t A3 ((l.drop n) ++ (l.take n)) c3 (by first | assumption | omega | (simp; omega) | exact fun v hv => hR v ((turn_perm l n).mem_iff.1 hv) | exact fun v hv => hR v ((turn_perm l n).mem_iff.1 (List.mem_of_mem_drop hv))) (by first | assumption | omega | (simp; omega) | exact fun v hv => hR v ((turn_perm l n).mem_iff.1 hv) | exact fun v hv => hR v ((turn_perm l n).mem_iff.1 (List.mem_of_mem_drop hv))) ww ((rd_sl (i := 0) rfl) ww ss)), (fun ww ss => fits_spec t al l cl (by first | assumption | omega | (simp; omega) | exact fun v hv => hR v ((turn_perm l n).mem_iff.1 hv) | exact fun v hv => hR v ((turn_perm l n).mem_iff.1 (List.mem_of_mem_drop hv))) (by first | assumption | omega | (simp; omega) | exact fun v hv => hR v ((turn_perm l n).mem_iff.1 hv) | exact fun v hv => hR v ((turn_perm l n).mem_iff.1 (List.mem_of_mem_drop hv))) ww ((rd_old r0 (by simp [feet])) ww ss)), trivial⟩ ?_))))
    refine A.tn (A.cond (E := (fitE t ((l.drop n) ++ (l.take n))) != (fitE t l)) rfl (fun e2 => ?_) (fun e2 => ?_))
    · exact absurd e2 (by (rw [fitE_perm (turn_perm l n)]; simp))
    · skip
      have p2 := e2; try simp only [nrm] at p2
      refine A.skip (A.tn (A.seq (A.region (A.goP [.p, .p, .cq (i_ (fitE t l)), .p, .p] [(0, i_ t), (1, vS al l cl), (2, i_ tn), (6, b_ false), (20, b_ ((((l.length : Int) == 0) || (decide ((l.length : Int) > 64))) || (decide (tn < 0)))), (7, c_ n), (8, vS A3 ((l.drop n) ++ (l.take n)) c3), (42, b_ ((fitE t ((l.drop n) ++ (l.take n))) != (fitE t l))), (47, b_ ((fitE t l) != 0))] [] (fun κ => κ.call 14 [i_ t, vS al l cl] (i_ (fitE t l)) ∧ True) (by kernel_rfl) ⟨(fun ww ss => fits_spec t al l cl (by first | assumption | omega | (simp; omega) | exact fun v hv => hR v ((turn_perm l n).mem_iff.1 hv) | exact fun v hv => hR v ((turn_perm l n).mem_iff.1 (List.mem_of_mem_drop hv))) (by first | assumption | omega | (simp; omega) | exact fun v hv => hR v ((turn_perm l n).mem_iff.1 hv) | exact fun v hv => hR v ((turn_perm l n).mem_iff.1 (List.mem_of_mem_drop hv))) ww ((rd_old r0 (by simp [feet])) ww ss)), trivial⟩ ?_))))
      refine A.bool ((fitE t l) != 0) (fun e3 => ?_) (fun e3 => ?_)
      · skip
        refine A.sub [(0, i_ t), (1, vS al l cl), (2, i_ tn), (6, b_ false), (20, b_ ((((l.length : Int) == 0) || (decide ((l.length : Int) > 64))) || (decide (tn < 0)))), (7, c_ n), (8, vS A3 ((l.drop n) ++ (l.take n)) c3), (42, b_ ((fitE t ((l.drop n) ++ (l.take n))) != (fitE t l))), (47, b_ true)] (by exact ⟨rfl, rfl, rfl, rfl, rfl, rfl, rfl, rfl, congrArg (fun z => some (Value.bool z)) e3, trivial⟩) ?_
        refine A.goA [.sk, .sk, .sk, .sk, .sk, .p, .p, .cq (b_ true), .p, .p] [(0, i_ t), (1, vS al l cl), (2, i_ tn), (6, b_ true), (20, b_ ((((l.length : Int) == 0) || (decide ((l.length : Int) > 64))) || (decide (tn < 0)))), (7, c_ n), (8, vS A3 ((l.drop n) ++ (l.take n)) c3), (42, b_ ((fitE t ((l.drop n) ++ (l.take n))) != (fitE t l)))] [] (fun κ => κ.call 11 [] (b_ true) ∧ True) (by kernel_rfl) ⟨(fun ww ss => whole_spec ww), trivial⟩ ?_
        refine A.tn (A.ret (A.postQ [b_ true] (fun aa ww rr ss => ⟨rv_tmp rr rfl, trivial⟩) ?_))
        rfl
      · skip
        refine A.sub [(0, i_ t), (1, vS al l cl), (2, i_ tn), (6, b_ false), (20, b_ ((((l.length : Int) == 0) || (decide ((l.length : Int) > 64))) || (decide (tn < 0)))), (7, c_ n), (8, vS A3 ((l.drop n) ++ (l.take n)) c3), (42, b_ ((fitE t ((l.drop n) ++ (l.take n))) != (fitE t l))), (47, b_ false)] (by exact ⟨rfl, rfl, rfl, rfl, rfl, rfl, rfl, rfl, congrArg (fun z => some (Value.bool z)) e3, trivial⟩) ?_
        refine A.goP [.p, .p] [(0, i_ t), (1, vS al l cl), (2, i_ tn), (6, b_ false), (20, b_ ((((l.length : Int) == 0) || (decide ((l.length : Int) > 64))) || (decide (tn < 0)))), (7, c_ n), (8, vS A3 ((l.drop n) ++ (l.take n)) c3), (42, b_ ((fitE t ((l.drop n) ++ (l.take n))) != (fitE t l))), (47, b_ false), (48, i_ t), (49, vS A3 ((l.drop n) ++ (l.take n)) c3)] [] T0 (by kernel_rfl) trivial ?_
        refine A.cons (A.q (some 50) (vS (cutA A3 c3 1 3) (((l.drop n) ++ (l.take n)).drop 1) (c3 - 1)) (by kernel_rfl) (qt_dropS (e := 43) (xs := ((l.drop n) ++ (l.take n))) (sz := 3) 1 rfl rfl rfl (by kernel_rfl) (by kernel_rfl) (by first | omega | (simp; omega)) (fun ww ss => sl_cap (ss.mem (i := 0) rfl))) ?_)
        refine A.goA [.cq (i_ (fitE t (((l.drop n) ++ (l.take n)).drop 1))), .p, .p, .p, .o, .cq (b_ true), .cl, .p] [(0, i_ t), (1, vS al l cl), (2, i_ tn), (6, b_ (((fitE t (((l.drop n) ++ (l.take n)).drop 1)) == 0) && true)), (20, b_ ((((l.length : Int) == 0) || (decide ((l.length : Int) > 64))) || (decide (tn < 0)))), (7, c_ n), (8, vS A3 ((l.drop n) ++ (l.take n)) c3), (42, b_ ((fitE t ((l.drop n) ++ (l.take n))) != (fitE t l)))] [] (fun κ => κ.call 14 [i_ t, vS (cutA A3 c3 1 3) (((l.drop n) ++ (l.take n)).drop 1) (c3 - 1)] (i_ (fitE t (((l.drop n) ++ (l.take n)).drop 1))) ∧ ((true && (((fitE t (((l.drop n) ++ (l.take n)).drop 1)) == 0) == true)) = true → κ.call 11 [] (b_ true)) ∧ True) (by kernel_rfl) ⟨(fun ww ss => fits_spec t (cutA A3 c3 1 3) (((l.drop n) ++ (l.take n)).drop 1) (c3 - 1) (by first | assumption | omega | (simp; omega) | exact fun v hv => hR v ((turn_perm l n).mem_iff.1 hv) | exact fun v hv => hR v ((turn_perm l n).mem_iff.1 (List.mem_of_mem_drop hv))) (by first | assumption | omega | (simp; omega) | exact fun v hv => hR v ((turn_perm l n).mem_iff.1 hv) | exact fun v hv => hR v ((turn_perm l n).mem_iff.1 (List.mem_of_mem_drop hv))) ww ((rd_drop encCv_len (rd_sl (i := 0) rfl) (by first | omega | (simp; omega)) (fun ww ss => sl_cap (ss.mem (i := 0) rfl))) ww ss)), (fun h_ => (fun ww ss => whole_spec ww)), trivial⟩ ?_
        refine A.tn (A.ret (A.postQ [b_ (((fitE t (((l.drop n) ++ (l.take n)).drop 1)) == 0) && true)] (fun aa ww rr ss => ⟨rv_tmp rr rfl, trivial⟩) ?_))
        show ((b_ (((fitE t (((l.drop n) ++ (l.take n)).drop 1)) == 0) && true)) : Value) = (b_ true)
        first | rfl | (refine congrArg Value.bool ?_; by_cases h0_ : fitE t l = 0; (· rw [less_2 hR h0_]; first | rfl | simp); (· first | exact absurd (by simpa using (show (fitE t l != 0) = false by assumption)) h0_ | simp [h0_]))
end Go.Proofs.Ytinnnoimmioaiaa
