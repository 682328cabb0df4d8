/- What the functions of this layer do, proved operation by operation, for all arguments, under the conditions that each theorem states. -/
import Derived.Test.YtinnnoimmioaiaaProg
import Derived.Test.YtinnnoimmioaiaaAdmit5
namespace Go.Proofs.Ytinnnoimmioaiaa
open Go V
set_option linter.unusedVariables false
set_option linter.unusedSimpArgs false
theorem fit_of2 {t : Int} {l : List Cv} (hm : mayE t l = 0) (hk : ∀ y ∈ knC l, svs l y * t ≤ 65536 * y) (hs : slps false l * t ≤ 65536) : fitE t l = 0 := by
  unfold fitE; rw [if_neg (by omega), if_neg]
  unfold fullW; rw [if_neg (by omega), List.find?_eq_none.2 (fun y hy => by have := hk y hy; unfold abv; simp; omega)]
  simp; omega
theorem fit_022 {t : Int} {l : List Cv} (hm : mayE t l = 0) : fitE t l = 0 ∨ fitE t l = 22 := by
  unfold fitE; rw [if_neg (by omega)]; split
  · exact .inr rfl
  · exact .inl rfl
theorem roomN_le {t : Int} {l : List Cv} : ∀ j, roomN t l j ≤ roomN t l 0 ∧ ∀ i k, i < j → (knC l)[i]? = some k → roomN t l j ≤ rsI t l k
  | 0 => ⟨Int.le_refl _, fun i k h => by omega⟩
  | j + 1 => by
    obtain ⟨h1, h2⟩ := roomN_le (t := t) (l := l) j
    cases hj : (knC l)[j]? with
    | none =>
      have e : roomN t l (j + 1) = roomN t l j := by rw [roomN, hj]
      rw [e]; exact ⟨h1, fun i k hi hk => by
        by_cases g : i = j
        · subst g; rw [hj] at hk; cases hk
        · exact h2 i k (by omega) hk⟩
    | some y =>
      rw [roomN_s hj, imin_eq]
      refine ⟨by omega, fun i k hi hk => ?_⟩
      by_cases g : i = j
      · subst g; rw [hj] at hk; cases hk; omega
      · have := h2 i k (by omega) hk; omega
theorem roomN_ge {t m : Int} {l : List Cv} (h0 : m ≤ roomN t l 0) (hk : ∀ k ∈ knC l, m ≤ rsI t l k) : ∀ j, m ≤ roomN t l j
  | 0 => h0
  | j + 1 => by
    have ih := roomN_ge h0 hk j
    cases hj : (knC l)[j]? with
    | none => rw [roomN, hj]; exact ih
    | some y => rw [roomN_s hj, imin_eq]; have := hk y (List.mem_of_getElem? hj); omega
theorem room_iff {t m : Int} {l : List Cv} (h : fitE t l = 0) : m ≤ roomW t l ↔ m ≤ roomN t l 0 ∧ ∀ k ∈ knC l, m ≤ rsI t l k := by
  unfold roomW; rw [if_neg (by omega)]
  obtain ⟨h1, h2⟩ := roomN_le (t := t) (l := l) (knC l).length
  constructor
  · intro g; refine ⟨by omega, fun k hk => ?_⟩
    obtain ⟨i, hi⟩ := List.mem_iff_getElem?.1 hk
    have := h2 i k (List.getElem?_eq_some_iff.1 hi).1 hi; omega
  · rintro ⟨g1, g2⟩; exact roomN_ge g1 g2 _
theorem room_rng {t : Int} {l : List Cv} (hR : ∀ v ∈ l, CvOk v) : 0 ≤ roomW t l ∧ roomW t l ≤ 65536 := by
  by_cases h : fitE t l = 0
  · obtain ⟨h1, h2, h3⟩ := fit_0 h
    obtain ⟨ht, hok⟩ := may_0 h1
    have hs : 0 ≤ slps false l := by
      unfold slps; clear h h1 h2 h3 hok
      induction l with
      | nil => simp
      | cons v l ih => have := ih fun x hx => hR x (by simp [hx]); have := (slV_rng (st := false) (hR v (by simp))).1; simp only [List.map_cons, List.sum_cons]; omega
    have h4 := Int.mul_nonneg hs (show 0 ≤ t by omega)
    have h5 : 0 ≤ roomN t l 0 ∧ roomN t l 0 ≤ 65536 := div_rng (by omega) ht.1 (by omega)
    have h6 := (roomN_le (t := t) (l := l) (knC l).length).1
    refine ⟨(room_iff h).2 ⟨h5.1, fun k hk => ?_⟩, ?_⟩
    · have := h2 k hk; have := knC_pos hR k hk
      exact Int.ediv_nonneg (by omega) (Int.mul_nonneg (by omega) (by omega))
    · unfold roomW; rw [if_neg (by omega)]; omega
  · unfold roomW; rw [if_pos h]; omega
def flC (m : Int) : Cv := ⟨m, 0, m⟩
theorem flC_of {m : Int} (h : 0 ≤ m ∧ m ≤ 4294967295) : ofC (flC m).ka (flC m).kb (flC m).kc ≠ 0 ∧ ¬(ofC (flC m).ka (flC m).kb (flC m).kc = 3 ∨ ofC (flC m).ka (flC m).kb (flC m).kc = 4) := by
  show ofC m 0 m ≠ 0 ∧ ¬(ofC m 0 m = 3 ∨ ofC m 0 m = 4)
  unfold ofC
  by_cases g : m = 0
  · simp [g]
  · rw [if_neg (by omega), if_neg (by omega), if_pos (by omega)]; decide
theorem flC_kn {m : Int} {l : List Cv} (h : 0 ≤ m ∧ m ≤ 4294967295) : knC (l ++ [flC m]) = knC l := by
  have e : kraw (l ++ [flC m]) = kraw l := by
    have := (flC_of h).2
    unfold kraw; rw [List.filter_append, List.map_append]; simp at this; simp [this]
  unfold knC; rw [e]
theorem flC_svs {m y : Int} {l : List Cv} (h : 0 ≤ m ∧ m ≤ 4294967295) (hy : 0 ≤ y) : svs (l ++ [flC m]) y = svs l y + m * y := by
  rw [svs_snoc]; unfold svV; rw [sv_hi (show (flC m).kb ≤ y from hy) (flC_of h).1]; show svs l y + (m * 0 + m * (y - 0)) = _; simp
theorem flC_slps {m : Int} {l : List Cv} (h : 0 ≤ m ∧ m ≤ 4294967295) : slps false (l ++ [flC m]) = slps false l + m := by rw [slps_snoc, slV_f (flC_of h).1]; rfl
theorem flC_may {t m : Int} {l : List Cv} (h : 0 ≤ m ∧ m ≤ 4294967295) (hl : mayE t l = 0) : mayE t (l ++ [flC m]) = 0 := by
  obtain ⟨ht, hok⟩ := may_0 hl
  unfold mayE; rw [if_neg (by omega), if_neg]
  intro g; obtain ⟨v, hv, e⟩ := List.any_eq_true.1 g
  unfold badV at e; simp only [beq_iff_eq] at e
  rcases List.mem_append.1 hv with hv | hv
  · exact hok v hv e
  · simp at hv; subst hv; exact (flC_of h).1 e
theorem fit_add {t m : Int} {l : List Cv} (hR : ∀ v ∈ l, CvOk v) (h0 : fitE t l = 0) (h : 0 ≤ m ∧ m ≤ 4294967295) : fitE t (l ++ [flC m]) = 0 ↔ m ≤ roomW t l := by
  obtain ⟨h1, h2, h3⟩ := fit_0 h0
  obtain ⟨ht, hok⟩ := may_0 h1
  have key : ∀ k v : Int, 1 ≤ k → (m ≤ (65536 * k - v * t) / (t * k) ↔ (v + m * k) * t ≤ 65536 * k) := fun k v hk => by
    rw [Int.le_ediv_iff_mul_le (Int.mul_pos (by omega) (by omega))]
    have e : (v + m * k) * t = v * t + m * (t * k) := by grind
    omega
  rw [room_iff h0]
  have e0 : m ≤ roomN t l 0 ↔ (slps false l + m) * t ≤ 65536 := by
    have := key 1 (slps false l) (by omega); rw [Int.mul_one m] at this; exact this
  rw [e0]
  constructor
  · intro g
    obtain ⟨g1, g2, g3⟩ := fit_0 g
    rw [flC_slps h] at g3; rw [flC_kn h] at g2
    refine ⟨g3, fun k hk => ?_⟩
    have hk2 := knC_pos hR k hk
    have := g2 k hk; rw [flC_svs h (by omega)] at this
    exact (key k _ hk2.1).2 this
  · rintro ⟨g1, g2⟩
    refine fit_of2 (flC_may h h1) (fun k hk => ?_) (by rw [flC_slps h]; exact g1)
    rw [flC_kn h] at hk
    have hk2 := knC_pos hR k hk
    rw [flC_svs h (by omega)]
    exact (key k _ hk2.1).1 (g2 k hk)
theorem room_ok {t : Int} {l : List Cv} (hR : ∀ v ∈ l, CvOk v) (h0 : fitE t l = 0) : fitE t (l ++ [⟨roomW t l, 0, roomW t l⟩]) = 0 ∧ fitE t (l ++ [⟨roomW t l + 1, 0, roomW t l + 1⟩]) = 22 := by
  have hr := room_rng hR (t := t)
  refine ⟨(fit_add hR h0 (m := roomW t l) (by omega)).2 (Int.le_refl _), ?_⟩
  rcases fit_022 (flC_may (m := roomW t l + 1) (by omega) (fit_0 h0).1) with g | g
  · have := (fit_add hR h0 (m := roomW t l + 1) (by omega)).1 g; omega
  · exact g
theorem room_cv {l : List Cv} (hR : ∀ v ∈ l, CvOk v) (m : Int) (hm : 0 ≤ m ∧ m ≤ 65537) : ∀ v ∈ l ++ [(⟨m, 0, m⟩ : Cv)], CvOk v := fun v hv => by
  rcases List.mem_append.1 hv with hv | hv
  · exact hR v hv
  · simp at hv; subst hv; unfold CvOk; simp only []; omega

set_option maxHeartbeats 4000000 in
set_option maxRecDepth 100000 in
theorem admitRoom_walk (t : Int) (al : Option Addr) (l : List Cv) (cl : Nat) (hR : ∀ v ∈ l, CvOk v) (w : World) (r0 : arrAt w al (V.flat encCv l)) :
    Calls Try.prog 6 #[i_ t, vS al l cl] w fun e w' => e = .returned (b_ true) ∧ Fr [] w w' := by
  have hr := room_rng hR (t := t)
  refine calls_of (args := [i_ t, vS al l cl]) (penv [i_ t, vS al l cl]) [] [] Try.func6 rfl rfl (look_penv _) (HS.nil w) ?_
  refine A.norm [(0, i_ t), (1, vS al l cl)] [] (by exact ⟨rfl, rfl, trivial⟩) rfl ?_
  refine A.seq (A.region (A.goA [.p] [(0, i_ t), (1, vS al l cl), (4, b_ false)] [] T0 (by kernel_rfl) trivial ?_))
  refine A.tn (A.seq (A.seq (A.region (A.goA [.p, .p, .p] [(0, i_ t), (1, vS al l cl), (4, b_ false), (12, b_ (decide ((l.length : Int) > 64)))] [] T0 (by kernel_rfl) trivial ?_))))
  refine A.tn (A.cond (E := decide ((l.length : Int) > 64)) rfl (fun e1 => ?_) (fun e1 => ?_))
  · skip
    have p1 := of_decide_eq_true e1
    refine A.seq (A.region (A.goA [.cq (b_ true), .p] [(0, i_ t), (1, vS al l cl), (4, b_ true), (12, b_ (decide ((l.length : Int) > 64)))] [] (fun κ => κ.call 11 [] (b_ true) ∧ True) (by kernel_rfl) ⟨(fun ww ss => whole_spec ww), trivial⟩ ?_))
    refine A.tn (A.ret (A.tr (A.postQ [b_ true] (fun aa ww rr ss => ⟨rv_tmp rr rfl, trivial⟩) ?_)))
    rfl
  · skip
    have p1 := of_decide_eq_false e1
    refine A.skip (A.tn (A.seq (A.region (A.goA [.p, .p, .cq (.tuple #[u_ (roomW t l), i_ (fitE t l)]), .p, .p, .p, .p, .p] [(0, i_ t), (1, vS al l cl), (4, b_ false), (12, b_ (decide ((l.length : Int) > 64))), (5, u_ (roomW t l)), (6, i_ (fitE t l))] [] (fun κ => κ.call 18 [i_ t, vS al l cl] (.tuple #[u_ (roomW t l), i_ (fitE t l)]) ∧ True) (by kernel_rfl) ⟨(fun ww ss => room_spec t al l cl (by first | assumption | omega | (simp; omega) | exact room_cv hR _ (by omega)) (by first | assumption | omega | (simp; omega) | exact room_cv hR _ (by omega)) ww ((rd_old r0 (by simp [feet])) ww ss)), trivial⟩ ?_))))
    refine A.tn (A.seq (A.seq (A.region (A.goA [.p, .p, .cq (i_ (fitE t l)), .p] [(0, i_ t), (1, vS al l cl), (4, b_ false), (12, b_ (decide ((l.length : Int) > 64))), (5, u_ (roomW t l)), (6, i_ (fitE t l)), (7, i_ (fitE t l))] [] (fun κ => κ.call 15 [i_ t, vS al l cl] (i_ (fitE t l)) ∧ True) (by kernel_rfl) ⟨(fun ww ss => rfits_spec t al l cl (by first | assumption | omega | (simp; omega) | exact room_cv hR _ (by omega)) (by first | assumption | omega | (simp; omega) | exact room_cv hR _ (by omega)) ww ((rd_old r0 (by simp [feet])) ww ss)), trivial⟩ ?_))))
    refine A.tn (A.seq (A.region (A.goA [.p, .p] [(0, i_ t), (1, vS al l cl), (4, b_ false), (12, b_ (decide ((l.length : Int) > 64))), (5, u_ (roomW t l)), (6, i_ (fitE t l)), (7, i_ (fitE t l)), (24, b_ ((fitE t l) != 0))] [] T0 (by kernel_rfl) trivial ?_)))
    refine A.tn (A.cond (E := (fitE t l) != 0) rfl (fun e2 => ?_) (fun e2 => ?_))
    · skip
      have p2 := e2; try simp only [nrm] at p2
      refine A.seq (A.region (A.goA [.p, .p, .p, .p, .o, .p, .p, .cl, .p, .o, .cq (b_ true), .cl, .p] [(0, i_ t), (1, vS al l cl), (4, b_ ((((fitE t l) == (fitE t l)) && ((roomW t l) == 0)) && true)), (12, b_ (decide ((l.length : Int) > 64))), (5, u_ (roomW t l)), (6, i_ (fitE t l)), (7, i_ (fitE t l)), (24, b_ ((fitE t l) != 0))] [] (fun κ => ((true && ((((fitE t l) == (fitE t l)) && ((roomW t l) == 0)) == true)) = true → κ.call 11 [] (b_ true)) ∧ True) (by kernel_rfl) ⟨(fun h_ => (fun ww ss => whole_spec ww)), trivial⟩ ?_))
      refine A.tn (A.ret (A.tr (A.postQ [b_ ((((fitE t l) == (fitE t l)) && ((roomW t l) == 0)) && true)] (fun aa ww rr ss => ⟨rv_tmp rr rfl, trivial⟩) ?_)))
      show ((b_ ((((fitE t l) == (fitE t l)) && ((roomW t l) == 0)) && true)) : Value) = (b_ true)
      first | rfl | (refine congrArg Value.bool ?_; by_cases h0_ : fitE t l = 0; (· obtain ⟨h1_, h2_⟩ := room_ok hR h0_; simp_all; done); (· have h3_ : roomW t l = 0 := (by unfold roomW; rw [if_pos h0_]); simp_all; done))
    · skip
      have p2 := e2; try simp only [nrm] at p2
      refine A.skip (A.tn (A.seq (A.region (A.goA [.p, .p] [(0, i_ t), (1, vS al l cl), (4, b_ false), (12, b_ (decide ((l.length : Int) > 64))), (5, u_ (roomW t l)), (6, i_ (fitE t l)), (7, i_ (fitE t l)), (24, b_ ((fitE t l) != 0)), (8, e_), (9, e_)] [] T0 (by kernel_rfl) trivial ?_))))
      refine A.tn (A.seq (A.region (A.goP [.p, .p] [(0, i_ t), (1, vS al l cl), (4, b_ false), (12, b_ (decide ((l.length : Int) > 64))), (5, u_ (roomW t l)), (6, i_ (fitE t l)), (7, i_ (fitE t l)), (24, b_ ((fitE t l) != 0)), (8, e_), (9, e_), (35, e_), (36, vS al l cl)] [] T0 (by kernel_rfl) trivial ?_)))
      refine A.cons (A.ownNil 43 3 [sCv none ([] : List Cv) 0] rfl (A.appendC (enc := encCv) (xs := ([] : List Cv)) l 0 37 (e := 43) (z := (.agg #[u_ 0, u_ 0, u_ 0])) (sz := 3) (by_ := 24) (by kernel_rfl) rfl rfl rfl (by kernel_rfl) (by kernel_rfl) (by rfl) (by decide) encCv_len encCv_one rfl (rd_old r0 (by simp [feet])) (by simp; omega) (fun A2 c2 => [sCv A2 l c2]) (fun _ _ => rfl) ?_))
      intro A2 c2
      refine A.goA [.p] [(0, i_ t), (1, vS al l cl), (4, b_ false), (12, b_ (decide ((l.length : Int) > 64))), (5, u_ (roomW t l)), (6, i_ (fitE t l)), (7, i_ (fitE t l)), (24, b_ ((fitE t l) != 0)), (8, vS A2 l c2), (9, e_)] [] T0 (by kernel_rfl) trivial ?_
      refine A.tn (A.seq (A.region (A.goP [.p, .p, .p, .p] [(0, i_ t), (1, vS al l cl), (4, b_ false), (12, b_ (decide ((l.length : Int) > 64))), (5, u_ (roomW t l)), (6, i_ (fitE t l)), (7, i_ (fitE t l)), (24, b_ ((fitE t l) != 0)), (8, vS A2 l c2), (9, e_), (38, vS A2 l c2), (41, (.agg #[u_ (roomW t l), u_ 0, u_ (roomW t l)]))] [] T0 (by kernel_rfl) trivial ?_)))
      refine A.cons (A.buildSlice 42 (e := 43) [u_ (roomW t l), u_ 0, u_ (roomW t l)] (by kernel_rfl) rfl (fun _ => by kernel_rfl) (fun b3 => [sCv A2 l c2, blk b3 [u_ (roomW t l), u_ 0, u_ (roomW t l)] 43]) (fun _ => rfl) ?_)
      intro b3
      refine A.cons (A.appendC (enc := encCv) (xs := l) ([(⟨(roomW t l), 0, (roomW t l)⟩ : Cv)]) 0 43 (e := 43) (z := (.agg #[u_ 0, u_ 0, u_ 0])) (sz := 3) (by_ := 24) (by kernel_rfl) rfl rfl rfl (by kernel_rfl) (by kernel_rfl) (by rfl) (by decide) encCv_len encCv_one rfl (rd_blk (i := 1) rfl) (by simp; omega) (fun A4 c4 => [sCv A4 (l ++ ([(⟨(roomW t l), 0, (roomW t l)⟩ : Cv)])) c4, blk b3 [u_ (roomW t l), u_ 0, u_ (roomW t l)] 43]) (fun _ _ => rfl) ?_)
      intro A4 c4
      refine A.goA [.p] [(0, i_ t), (1, vS al l cl), (4, b_ false), (12, b_ (decide ((l.length : Int) > 64))), (5, u_ (roomW t l)), (6, i_ (fitE t l)), (7, i_ (fitE t l)), (24, b_ ((fitE t l) != 0)), (8, vS A4 (l ++ ([(⟨(roomW t l), 0, (roomW t l)⟩ : Cv)])) c4), (9, e_)] [] T0 (by kernel_rfl) trivial ?_
      refine A.tn (A.seq (A.region (A.goP [.p, .p] [(0, i_ t), (1, vS al l cl), (4, b_ false), (12, b_ (decide ((l.length : Int) > 64))), (5, u_ (roomW t l)), (6, i_ (fitE t l)), (7, i_ (fitE t l)), (24, b_ ((fitE t l) != 0)), (8, vS A4 (l ++ ([(⟨(roomW t l), 0, (roomW t l)⟩ : Cv)])) c4), (9, e_), (44, e_), (45, vS al l cl)] [] T0 (by kernel_rfl) trivial ?_)))
      refine A.cons (A.ownNil 43 3 [sCv A4 (l ++ ([(⟨(roomW t l), 0, (roomW t l)⟩ : Cv)])) c4, blk b3 [u_ (roomW t l), u_ 0, u_ (roomW t l)] 43, sCv none ([] : List Cv) 0] rfl (A.appendC (enc := encCv) (xs := ([] : List Cv)) l 2 46 (e := 43) (z := (.agg #[u_ 0, u_ 0, u_ 0])) (sz := 3) (by_ := 24) (by kernel_rfl) rfl rfl rfl (by kernel_rfl) (by kernel_rfl) (by rfl) (by decide) encCv_len encCv_one rfl (rd_old r0 (by simp [feet])) (by simp; omega) (fun A6 c6 => [sCv A4 (l ++ ([(⟨(roomW t l), 0, (roomW t l)⟩ : Cv)])) c4, blk b3 [u_ (roomW t l), u_ 0, u_ (roomW t l)] 43, sCv A6 l c6]) (fun _ _ => rfl) ?_))
      intro A6 c6
      refine A.goA [.p] [(0, i_ t), (1, vS al l cl), (4, b_ false), (12, b_ (decide ((l.length : Int) > 64))), (5, u_ (roomW t l)), (6, i_ (fitE t l)), (7, i_ (fitE t l)), (24, b_ ((fitE t l) != 0)), (8, vS A4 (l ++ ([(⟨(roomW t l), 0, (roomW t l)⟩ : Cv)])) c4), (9, vS A6 l c6)] [] T0 (by kernel_rfl) trivial ?_
      refine A.tn (A.seq (A.region (A.goP [.p, .p, .w ((roomW t l) + 1), .p, .w ((roomW t l) + 1), .p] [(0, i_ t), (1, vS al l cl), (4, b_ false), (12, b_ (decide ((l.length : Int) > 64))), (5, u_ (roomW t l)), (6, i_ (fitE t l)), (7, i_ (fitE t l)), (24, b_ ((fitE t l) != 0)), (8, vS A4 (l ++ ([(⟨(roomW t l), 0, (roomW t l)⟩ : Cv)])) c4), (9, vS A6 l c6), (47, vS A6 l c6), (52, (.agg #[u_ ((roomW t l) + 1), u_ 0, u_ ((roomW t l) + 1)]))] [] (fun κ => (IntKind.u64.wrap ((roomW t l) + 1) = ((roomW t l) + 1)) ∧ (IntKind.u64.wrap ((roomW t l) + 1) = ((roomW t l) + 1)) ∧ True) (by kernel_rfl) ⟨(wrap_u64 (e := (roomW t l) + 1) (by constructor <;> omega)), wrap_u64 (e := (roomW t l) + 1) (by constructor <;> omega), trivial⟩ ?_)))
      refine A.cons (A.buildSlice 53 (e := 43) [u_ ((roomW t l) + 1), u_ 0, u_ ((roomW t l) + 1)] (by kernel_rfl) rfl (fun _ => by kernel_rfl) (fun b7 => [sCv A4 (l ++ ([(⟨(roomW t l), 0, (roomW t l)⟩ : Cv)])) c4, blk b3 [u_ (roomW t l), u_ 0, u_ (roomW t l)] 43, sCv A6 l c6, blk b7 [u_ ((roomW t l) + 1), u_ 0, u_ ((roomW t l) + 1)] 43]) (fun _ => rfl) ?_)
      intro b7
      refine A.cons (A.appendC (enc := encCv) (xs := l) ([(⟨(roomW t l) + 1, 0, (roomW t l) + 1⟩ : Cv)]) 2 54 (e := 43) (z := (.agg #[u_ 0, u_ 0, u_ 0])) (sz := 3) (by_ := 24) (by kernel_rfl) rfl rfl rfl (by kernel_rfl) (by kernel_rfl) (by rfl) (by decide) encCv_len encCv_one rfl (rd_blk (i := 3) rfl) (by simp; omega) (fun A8 c8 => [sCv A4 (l ++ ([(⟨(roomW t l), 0, (roomW t l)⟩ : Cv)])) c4, blk b3 [u_ (roomW t l), u_ 0, u_ (roomW t l)] 43, sCv A8 (l ++ ([(⟨(roomW t l) + 1, 0, (roomW t l) + 1⟩ : Cv)])) c8, blk b7 [u_ ((roomW t l) + 1), u_ 0, u_ ((roomW t l) + 1)] 43]) (fun _ _ => rfl) ?_)
      intro A8 c8
      refine A.goA [.p] [(0, i_ t), (1, vS al l cl), (4, b_ false), (12, b_ (decide ((l.length : Int) > 64))), (5, u_ (roomW t l)), (6, i_ (fitE t l)), (7, i_ (fitE t l)), (24, b_ ((fitE t l) != 0)), (8, vS A4 (l ++ ([(⟨(roomW t l), 0, (roomW t l)⟩ : Cv)])) c4), (9, vS A8 (l ++ ([(⟨(roomW t l) + 1, 0, (roomW t l) + 1⟩ : Cv)])) c8)] [] T0 (by kernel_rfl) trivial ?_
      refine A.tn (A.seq (A.region (A.goA [.p, .p, .p, .o, .p, .p, .cl, .p, .o, .p, .p, .cq (i_ (fitE t (l ++ ([(⟨(roomW t l), 0, (roomW t l)⟩ : Cv)])))), .p, .cl, .p, .o, .p, .p, .cq (i_ (fitE t (l ++ ([(⟨(roomW t l) + 1, 0, (roomW t l) + 1⟩ : Cv)])))), .p, .cl, .p, .o, .cq (b_ true), .cl, .p] [(0, i_ t), (1, vS al l cl), (4, b_ ((((((fitE t l) == 0) && (decide ((roomW t l) ≤ 65536))) && ((fitE t (l ++ ([(⟨(roomW t l), 0, (roomW t l)⟩ : Cv)]))) == 0)) && ((fitE t (l ++ ([(⟨(roomW t l) + 1, 0, (roomW t l) + 1⟩ : Cv)]))) == 22)) && true)), (12, b_ (decide ((l.length : Int) > 64))), (5, u_ (roomW t l)), (6, i_ (fitE t l)), (7, i_ (fitE t l)), (24, b_ ((fitE t l) != 0)), (8, vS A4 (l ++ ([(⟨(roomW t l), 0, (roomW t l)⟩ : Cv)])) c4), (9, vS A8 (l ++ ([(⟨(roomW t l) + 1, 0, (roomW t l) + 1⟩ : Cv)])) c8)] [] (fun κ => ((true && ((((fitE t l) == 0) && (decide ((roomW t l) ≤ 65536))) == true)) = true → κ.call 14 [i_ t, vS A4 (l ++ ([(⟨(roomW t l), 0, (roomW t l)⟩ : Cv)])) c4] (i_ (fitE t (l ++ ([(⟨(roomW t l), 0, (roomW t l)⟩ : Cv)]))))) ∧ ((true && (((((fitE t l) == 0) && (decide ((roomW t l) ≤ 65536))) && ((fitE t (l ++ ([(⟨(roomW t l), 0, (roomW t l)⟩ : Cv)]))) == 0)) == true)) = true → κ.call 14 [i_ t, vS A8 (l ++ ([(⟨(roomW t l) + 1, 0, (roomW t l) + 1⟩ : Cv)])) c8] (i_ (fitE t (l ++ ([(⟨(roomW t l) + 1, 0, (roomW t l) + 1⟩ : Cv)]))))) ∧ ((true && ((((((fitE t l) == 0) && (decide ((roomW t l) ≤ 65536))) && ((fitE t (l ++ ([(⟨(roomW t l), 0, (roomW t l)⟩ : Cv)]))) == 0)) && ((fitE t (l ++ ([(⟨(roomW t l) + 1, 0, (roomW t l) + 1⟩ : Cv)]))) == 22)) == true)) = true → κ.call 11 [] (b_ true)) ∧ True) (by kernel_rfl) ⟨(fun h_ => (fun ww ss => fits_spec t A4 (l ++ ([(⟨(roomW t l), 0, (roomW t l)⟩ : Cv)])) c4 (by first | assumption | omega | (simp; omega) | exact room_cv hR _ (by omega)) (by first | assumption | omega | (simp; omega) | exact room_cv hR _ (by omega)) ww ((rd_sl (i := 0) rfl) ww ss))), (fun h_ => (fun ww ss => fits_spec t A8 (l ++ ([(⟨(roomW t l) + 1, 0, (roomW t l) + 1⟩ : Cv)])) c8 (by first | assumption | omega | (simp; omega) | exact room_cv hR _ (by omega)) (by first | assumption | omega | (simp; omega) | exact room_cv hR _ (by omega)) ww ((rd_sl (i := 2) rfl) ww ss))), (fun h_ => (fun ww ss => whole_spec ww)), trivial⟩ ?_)))
      refine A.tn (A.ret (A.postQ [b_ ((((((fitE t l) == 0) && (decide ((roomW t l) ≤ 65536))) && ((fitE t (l ++ ([(⟨(roomW t l), 0, (roomW t l)⟩ : Cv)]))) == 0)) && ((fitE t (l ++ ([(⟨(roomW t l) + 1, 0, (roomW t l) + 1⟩ : Cv)]))) == 22)) && true)] (fun aa ww rr ss => ⟨rv_tmp rr rfl, trivial⟩) ?_))
      show ((b_ ((((((fitE t l) == 0) && (decide ((roomW t l) ≤ 65536))) && ((fitE t (l ++ ([(⟨(roomW t l), 0, (roomW t l)⟩ : Cv)]))) == 0)) && ((fitE t (l ++ ([(⟨(roomW t l) + 1, 0, (roomW t l) + 1⟩ : Cv)]))) == 22)) && true)) : Value) = (b_ true)
      first | rfl | (refine congrArg Value.bool ?_; by_cases h0_ : fitE t l = 0; (· obtain ⟨h1_, h2_⟩ := room_ok hR h0_; simp_all; done); (· have h3_ : roomW t l = 0 := (by unfold roomW; rw [if_pos h0_]); simp_all; done))
end Go.Proofs.Ytinnnoimmioaiaa
