/- What the functions of this layer do, proved operation by operation, for all arguments, under the conditions that each theorem states. -/
import Derived.Test.YtinnnoimmioaiaaProg
import Derived.Test.YtinnnoimmioaiaaAdmit3
namespace Go.Proofs.Ytinnnoimmioaiaa
open Go V
set_option linter.unusedVariables false
set_option linter.unusedSimpArgs false
theorem ofC_b {a b c : Int} (hb : 0 ≤ b) (h : ofC a b c ≠ 0) (h2 : ¬(ofC a b c = 3 ∨ ofC a b c = 4)) : b = 0 := by
  unfold ofC at h h2
  repeat' split at h
  all_goals first | omega | (simp_all; done) | (simp_all; omega)
theorem kn_mem (l : List Cv) (y : Int) : y ∈ knC l ↔ ∃ v ∈ l, (ofC v.ka v.kb v.kc = 3 ∨ ofC v.ka v.kb v.kc = 4) ∧ v.kb = y := by
  rw [show y ∈ knC l ↔ y ∈ kraw l from (cmp_sort (kraw l)).2 y]
  unfold kraw
  rw [List.mem_map]
  constructor
  · rintro ⟨v, hv, e⟩; obtain ⟨h1, h2⟩ := List.mem_filter.1 hv; exact ⟨v, h1, by simpa using h2, e⟩
  · rintro ⟨v, h1, h2, e⟩; exact ⟨v, List.mem_filter.2 ⟨h1, by simpa using h2⟩, e⟩
theorem sv_lo {a b c x : Int} (h : x ≤ b) (ho : ofC a b c ≠ 0) : sv a b c x = a * x := by
  unfold sv; rw [if_neg ho, imin_eq, show min x b = x by omega]; grind
theorem sv_hi {a b c x : Int} (h : b ≤ x) (ho : ofC a b c ≠ 0) : sv a b c x = a * b + c * (x - b) := by
  unfold sv; rw [if_neg ho, imin_eq, show min x b = b by omega]
theorem sv_line {a b c p q x : Int} (ho : ofC a b c ≠ 0) (h1 : p ≤ x) (h2 : x ≤ q) (h : b ≤ p ∨ q ≤ b) : (q - p) * sv a b c x = (q - x) * sv a b c p + (x - p) * sv a b c q := by
  rcases h with h | h
  · rw [sv_hi (by omega) ho, sv_hi h ho, sv_hi (x := q) (by omega) ho]; grind
  · rw [sv_lo (by omega) ho, sv_lo (x := p) (by omega) ho, sv_lo h ho]; grind
theorem svs_line {p q x : Int} (h1 : p ≤ x) (h2 : x ≤ q) : ∀ {l : List Cv}, (∀ v ∈ l, ofC v.ka v.kb v.kc ≠ 0 ∧ (v.kb ≤ p ∨ q ≤ v.kb)) → (q - p) * svs l x = (q - x) * svs l p + (x - p) * svs l q
  | [], _ => by simp [svs]
  | v :: l, h => by
    have ih := svs_line h1 h2 (l := l) fun v hv => h v (by simp [hv])
    have e := sv_line (h v (by simp)).1 h1 h2 (h v (by simp)).2
    have f : ∀ y, svs (v :: l) y = sv v.ka v.kb v.kc y + svs l y := fun y => by simp [svs, svV]
    rw [f, f, f, Int.mul_add, ih, e]; grind
theorem svs_end {p x : Int} (h1 : p ≤ x) : ∀ {l : List Cv}, (∀ v ∈ l, ofC v.ka v.kb v.kc ≠ 0 ∧ v.kb ≤ p) → svs l x = svs l p + slps false l * (x - p)
  | [], _ => by simp [svs, slps]
  | v :: l, h => by
    have ih := svs_end h1 (l := l) fun v hv => h v (by simp [hv])
    obtain ⟨e1, e2⟩ := h v (by simp)
    have f : ∀ y, svs (v :: l) y = sv v.ka v.kb v.kc y + svs l y := fun y => by simp [svs, svV]
    have g : slps false (v :: l) = v.kc + slps false l := by simp [slps, slV_f e1]
    rw [f, f, g, ih, sv_hi (x := x) (by omega) e1, sv_hi e2 e1]; grind
theorem below_of (K : List Int) {x : Int} (hx : 0 ≤ x) : ∃ p, (p = 0 ∨ p ∈ K) ∧ p ≤ x ∧ 0 ≤ p ∧ ∀ k ∈ K, k ≤ x → k ≤ p := by
  induction K with
  | nil => exact ⟨0, by simp, hx, by omega, by simp⟩
  | cons y K ih =>
    obtain ⟨p, h1, h2, h3, h4⟩ := ih
    by_cases g : p ≤ y ∧ y ≤ x
    · refine ⟨y, by simp, g.2, by omega, fun k hk hkx => ?_⟩
      rcases List.mem_cons.1 hk with e | e
      · omega
      · have := h4 k e hkx; omega
    · refine ⟨p, by rcases h1 with h1 | h1 <;> simp [h1], h2, h3, fun k hk hkx => ?_⟩
      rcases List.mem_cons.1 hk with e | e
      · omega
      · exact h4 k e hkx
theorem above_of (K : List Int) (x : Int) : (∀ k ∈ K, k ≤ x) ∨ ∃ q ∈ K, x < q ∧ ∀ k ∈ K, x < k → q ≤ k := by
  induction K with
  | nil => left; simp
  | cons y K ih =>
    by_cases g : x < y
    · right
      rcases ih with h | ⟨q, h1, h2, h3⟩
      · refine ⟨y, by simp, g, fun k hk hkx => ?_⟩
        rcases List.mem_cons.1 hk with e | e
        · omega
        · have := h k e; omega
      · by_cases g2 : y ≤ q
        · refine ⟨y, by simp, g, fun k hk hkx => ?_⟩
          rcases List.mem_cons.1 hk with e | e
          · omega
          · have := h3 k e hkx; omega
        · refine ⟨q, by simp [h1], h2, fun k hk hkx => ?_⟩
          rcases List.mem_cons.1 hk with e | e
          · omega
          · exact h3 k e hkx
    · rcases ih with h | ⟨q, h1, h2, h3⟩
      · left; intro k hk
        rcases List.mem_cons.1 hk with e | e
        · omega
        · exact h k e
      · right
        refine ⟨q, by simp [h1], h2, fun k hk hkx => ?_⟩
        rcases List.mem_cons.1 hk with e | e
        · omega
        · exact h3 k e hkx
theorem svs_0 {l : List Cv} (hR : ∀ v ∈ l, CvOk v) : svs l 0 = 0 := by
  induction l with
  | nil => rfl
  | cons v l ih =>
    have := cv_nn (hR v (by simp))
    have e : sv v.ka v.kb v.kc 0 = 0 := by unfold sv; split <;> (try rw [imin_eq, show min 0 v.kb = 0 by omega]) <;> simp
    simp only [svs, svV, List.map_cons, List.sum_cons, e] at *; rw [show (List.map (svV 0) l).sum = 0 from ih fun x hx => hR x (by simp [hx])]; rfl
/-- no tick is above, if no knee is and the end is not -/
theorem holds_all {t : Int} {l : List Cv} (ht : 1 ≤ t) (hR : ∀ v ∈ l, CvOk v) (hok : ∀ v ∈ l, ofC v.ka v.kb v.kc ≠ 0) (hk : ∀ y ∈ knC l, svs l y * t ≤ 65536 * y) (hs : slps false l * t ≤ 65536) {x : Int} (hx : 0 ≤ x) : svs l x * t ≤ 65536 * x := by
  obtain ⟨p, hp, h1, h2, h3⟩ := below_of (knC l) hx
  have hpt : svs l p * t ≤ 65536 * p := by
    rcases hp with rfl | hp
    · rw [svs_0 hR]; omega
    · exact hk p hp
  rcases above_of (knC l) x with ha | ⟨q, hq, h4, h5⟩
  · have e := svs_end h1 (l := l) fun v hv => ⟨hok v hv, by
      by_cases g : ofC v.ka v.kb v.kc = 3 ∨ ofC v.ka v.kb v.kc = 4
      · have hm := (kn_mem l v.kb).2 ⟨v, hv, g, rfl⟩
        exact h3 _ hm (ha _ hm)
      · have := cv_nn (hR v hv); have := ofC_b (by omega) (hok v hv) g; omega⟩
    have m := Int.mul_le_mul_of_nonneg_right hs (show 0 ≤ x - p by omega)
    have e2 : svs l x * t = svs l p * t + slps false l * t * (x - p) := by rw [e]; grind
    rw [e2]; omega
  · have e := svs_line h1 (Int.le_of_lt h4) (l := l) fun v hv => ⟨hok v hv, by
      by_cases g : ofC v.ka v.kb v.kc = 3 ∨ ofC v.ka v.kb v.kc = 4
      · have hm := (kn_mem l v.kb).2 ⟨v, hv, g, rfl⟩
        by_cases g2 : v.kb ≤ x
        · exact .inl (h3 _ hm g2)
        · exact .inr (h5 _ hm (by omega))
      · have := cv_nn (hR v hv); have := ofC_b (by omega) (hok v hv) g; omega⟩
    have m1 := Int.mul_le_mul_of_nonneg_left hpt (show 0 ≤ q - x by omega)
    have m2 := Int.mul_le_mul_of_nonneg_left (hk q hq) (show 0 ≤ x - p by omega)
    have e2 : (q - p) * (svs l x * t) = (q - x) * (svs l p * t) + (x - p) * (svs l q * t) := by rw [← Int.mul_assoc, e]; grind
    have e3 : (q - p) * (65536 * x) = (q - x) * (65536 * p) + (x - p) * (65536 * q) := by grind
    exact Int.le_of_mul_le_mul_left (show (q - p) * (svs l x * t) ≤ (q - p) * (65536 * x) by rw [e2, e3]; omega) (by omega)
theorem holds_0 {t x : Int} {l : List Cv} (hR : ∀ v ∈ l, CvOk v) (h : fitE t l = 0) (hx : 0 ≤ x) : svs l x * t ≤ 65536 * x := by
  obtain ⟨h1, h2, h3⟩ := fit_0 h
  obtain ⟨ht, hok⟩ := may_0 h1
  exact holds_all ht.1 hR hok h2 h3 hx
theorem svs_far {x : Int} (hx : 1048576 ≤ x) : ∀ {l : List Cv}, (∀ v ∈ l, CvOk v) → slps false l * (x - 1048576) ≤ svs l x
  | [], _ => by simp [svs, slps]
  | v :: l, h => by
    have ih := svs_far hx (l := l) fun v hv => h v (by simp [hv])
    obtain ⟨q1, q2, q3⟩ := cv_nn (h v (by simp))
    have f : svs (v :: l) x = sv v.ka v.kb v.kc x + svs l x := by simp [svs, svV]
    have g : slps false (v :: l) = slV false v + slps false l := by simp [slps]
    rw [f, g, Int.add_mul]
    by_cases e : ofC v.ka v.kb v.kc = 0
    · rw [slV_0 e, show sv v.ka v.kb v.kc x = 0 by unfold sv; rw [if_pos e]]; omega
    · rw [slV_f e]
      have hm := ofC_max q1.1 q2.1 q3.1 e
      rw [sv_hi (by omega) e]
      have := Int.mul_le_mul_of_nonneg_left (show x - 1048576 ≤ x - v.kb by omega) q3.1
      have := Int.mul_nonneg q1.1 q2.1
      omega
theorem full_22 {t : Int} {l : List Cv} (hR : ∀ v ∈ l, CvOk v) (h : fitE t l = 22) : (fullW t l).2 = true ∧ (0 ≤ (fullW t l).1 ∧ (fullW t l).1 ≤ 1048576) ∧ (1 ≤ t ∧ t ≤ 65536) ∧ ((fullW t l).1 ≠ 0 → 65536 * (fullW t l).1 < svs l (fullW t l).1 * t) ∧ ((fullW t l).1 = 0 → 65536 * 4611686018427387904 < svs l 4611686018427387904 * t) := by
  unfold fitE at h; split at h
  · unfold mayE at h; split at h
    · omega
    · split at h <;> omega
  · rename_i h0
    have h1 : mayE t l = 0 := by omega
    obtain ⟨ht, hok⟩ := may_0 h1
    split at h
    · rename_i h2
      refine ⟨h2, ?_⟩
      unfold fullW at h2 ⊢; rw [if_neg h0] at h2 ⊢
      cases hf : (knC l).find? (abv l t) with
      | some k =>
        have hk := knC_pos hR k (List.mem_of_find?_eq_some hf)
        have := List.find?_some hf
        unfold abv at this; simp at this
        refine ⟨by show 0 ≤ k ∧ k ≤ _; omega, ht, fun _ => this, fun e => by have e : k = 0 := e; omega⟩
      | none =>
        rw [hf] at h2; simp at h2
        refine ⟨by show (0 : Int) ≤ 0 ∧ (0 : Int) ≤ _; omega, ht, fun e => absurd rfl e, fun _ => ?_⟩
        have m := Int.mul_le_mul_of_nonneg_right (svs_far (x := 4611686018427387904) (by omega) hR) (show 0 ≤ t by omega)
        have e : slps false l * (4611686018427387904 - 1048576) * t = slps false l * t * 4611686018426339328 := by rw [show (4611686018427387904 - 1048576 : Int) = 4611686018426339328 by rfl]; grind
        rw [e] at m; omega
    · omega

set_option maxHeartbeats 4000000 in
set_option maxRecDepth 100000 in
theorem admitHolds_walk (t : Int) (al : Option Addr) (l : List Cv) (cl : Nat) (x : Int) (hR : ∀ v ∈ l, CvOk v) (hx : 0 ≤ x ∧ x < 18446744073709551616) (w : World) (r0 : arrAt w al (V.flat encCv l)) :
    Calls Try.prog 4 #[i_ t, vS al l cl, u_ x] w fun e w' => e = .returned (b_ true) ∧ Fr [] w w' := by
  refine calls_of (args := [i_ t, vS al l cl, u_ x]) (penv [i_ t, vS al l cl, u_ x]) [] [] Try.func4 rfl rfl (look_penv _) (HS.nil w) ?_
  refine A.norm [(0, i_ t), (1, vS al l cl), (2, u_ x)] [] (by exact ⟨rfl, rfl, rfl, trivial⟩) rfl ?_
  refine A.seq (A.region (A.goA [.p] [(0, i_ t), (1, vS al l cl), (2, u_ x), (6, b_ false)] [] T0 (by kernel_rfl) trivial ?_))
  refine A.tn (A.seq (A.seq (A.region (A.goA [.p, .p, .p, .p, .o, .p, .p, .cl] [(0, i_ t), (1, vS al l cl), (2, u_ x), (6, b_ false), (15, b_ ((decide ((l.length : Int) > 64)) || (decide (x > 4611686018427387904))))] [] T0 (by kernel_rfl) trivial ?_))))
  refine A.tn (A.cond (E := (decide ((l.length : Int) > 64)) || (decide (x > 4611686018427387904))) rfl (fun e1 => ?_) (fun e1 => ?_))
  · skip
    have p1 := e1; try simp only [nrm] at p1
    refine A.seq (A.region (A.goA [.cq (b_ true), .p] [(0, i_ t), (1, vS al l cl), (2, u_ x), (6, b_ true), (15, b_ ((decide ((l.length : Int) > 64)) || (decide (x > 4611686018427387904))))] [] (fun κ => κ.call 11 [] (b_ true) ∧ True) (by kernel_rfl) ⟨(fun ww ss => whole_spec ww), trivial⟩ ?_))
    refine A.tn (A.ret (A.tr (A.postQ [b_ true] (fun aa ww rr ss => ⟨rv_tmp rr rfl, trivial⟩) ?_)))
    rfl
  · skip
    have p1 := e1; try simp only [nrm] at p1
    refine A.skip (A.tn (A.seq (A.seq (A.region (A.goA [.p, .p, .cq (i_ (fitE t l))] [(0, i_ t), (1, vS al l cl), (2, u_ x), (6, b_ false), (15, b_ ((decide ((l.length : Int) > 64)) || (decide (x > 4611686018427387904)))), (19, i_ (fitE t l))] [] (fun κ => κ.call 14 [i_ t, vS al l cl] (i_ (fitE t l)) ∧ True) (by kernel_rfl) ⟨(fun ww ss => fits_spec t al l cl (by first | assumption | omega | (have h_ := fit_0 (t := t) (l := l) (by assumption); obtain ⟨ht, hok⟩ := may_0 h_.1; first | assumption | omega | (have h_ := svs_rng hR hx (show l.length ≤ 1000 by omega); unfold W128; omega) | (have h_ := mul_p (svs_rng hR hx (show l.length ≤ 1000 by omega)) ht; unfold W128; omega)) | (obtain ⟨w1, w2, w3, w4, w5⟩ := full_22 hR (t := t) (by assumption); first | assumption | omega | (have h_ := svs_rng (t := (fullW t l).1) hR (by omega) (show l.length ≤ 1000 by omega); unfold W128; omega) | (have h_ := mul_p (svs_rng (t := (fullW t l).1) hR (by omega) (show l.length ≤ 1000 by omega)) w3; unfold W128; omega) | (have h_ := svs_rng (t := 4611686018427387904) hR (by omega) (show l.length ≤ 1000 by omega); unfold W128; omega) | (have h_ := mul_p (svs_rng (t := 4611686018427387904) hR (by omega) (show l.length ≤ 1000 by omega)) w3; unfold W128; omega))) (by first | assumption | omega | (have h_ := fit_0 (t := t) (l := l) (by assumption); obtain ⟨ht, hok⟩ := may_0 h_.1; first | assumption | omega | (have h_ := svs_rng hR hx (show l.length ≤ 1000 by omega); unfold W128; omega) | (have h_ := mul_p (svs_rng hR hx (show l.length ≤ 1000 by omega)) ht; unfold W128; omega)) | (obtain ⟨w1, w2, w3, w4, w5⟩ := full_22 hR (t := t) (by assumption); first | assumption | omega | (have h_ := svs_rng (t := (fullW t l).1) hR (by omega) (show l.length ≤ 1000 by omega); unfold W128; omega) | (have h_ := mul_p (svs_rng (t := (fullW t l).1) hR (by omega) (show l.length ≤ 1000 by omega)) w3; unfold W128; omega) | (have h_ := svs_rng (t := 4611686018427387904) hR (by omega) (show l.length ≤ 1000 by omega); unfold W128; omega) | (have h_ := mul_p (svs_rng (t := 4611686018427387904) hR (by omega) (show l.length ≤ 1000 by omega)) w3; unfold W128; omega))) ww ((rd_old r0 (by simp [feet])) ww ss)), trivial⟩ ?_)))))
    refine A.tn (A.block (A.seq (A.region (A.goA [.p, .p] [(0, i_ t), (1, vS al l cl), (2, u_ x), (6, b_ false), (15, b_ ((decide ((l.length : Int) > 64)) || (decide (x > 4611686018427387904)))), (19, i_ (fitE t l)), (20, b_ ((fitE t l) == 0))] [] T0 (by kernel_rfl) trivial ?_))))
    refine A.tn (A.cond (E := (fitE t l) == 0) rfl (fun e2 => ?_) (fun e2 => ?_))
    · skip
      have p2 := e2; try simp only [nrm] at p2
      refine A.seq (A.region (A.goA [.p, .p, .cq (.agg #[u_ (dA (svs l x)), u_ (dB (svs l x)), u_ (dC (svs l x)), u_ (dD (svs l x))]), .p, .p, .cq (b_ (decide ((svs l x) * t ≤ 65536 * x))), .p, .o, .cq (b_ true), .cl, .p] [(0, i_ t), (1, vS al l cl), (2, u_ x), (6, b_ ((decide ((svs l x) * t ≤ 65536 * x)) && true)), (15, b_ ((decide ((l.length : Int) > 64)) || (decide (x > 4611686018427387904)))), (19, i_ (fitE t l)), (20, b_ ((fitE t l) == 0))] [] (fun κ => κ.call 17 [vS al l cl, u_ x] (.agg #[u_ (dA (svs l x)), u_ (dB (svs l x)), u_ (dC (svs l x)), u_ (dD (svs l x))]) ∧ κ.call 16 [(.agg #[u_ (dA (svs l x)), u_ (dB (svs l x)), u_ (dC (svs l x)), u_ (dD (svs l x))]), i_ t, u_ x] (b_ (decide ((svs l x) * t ≤ 65536 * x))) ∧ ((true && ((decide ((svs l x) * t ≤ 65536 * x)) == true)) = true → κ.call 11 [] (b_ true)) ∧ True) (by kernel_rfl) ⟨(fun ww ss => rssv_spec al l cl x (by first | assumption | omega | (have h_ := fit_0 (t := t) (l := l) (by assumption); obtain ⟨ht, hok⟩ := may_0 h_.1; first | assumption | omega | (have h_ := svs_rng hR hx (show l.length ≤ 1000 by omega); unfold W128; omega) | (have h_ := mul_p (svs_rng hR hx (show l.length ≤ 1000 by omega)) ht; unfold W128; omega)) | (obtain ⟨w1, w2, w3, w4, w5⟩ := full_22 hR (t := t) (by assumption); first | assumption | omega | (have h_ := svs_rng (t := (fullW t l).1) hR (by omega) (show l.length ≤ 1000 by omega); unfold W128; omega) | (have h_ := mul_p (svs_rng (t := (fullW t l).1) hR (by omega) (show l.length ≤ 1000 by omega)) w3; unfold W128; omega) | (have h_ := svs_rng (t := 4611686018427387904) hR (by omega) (show l.length ≤ 1000 by omega); unfold W128; omega) | (have h_ := mul_p (svs_rng (t := 4611686018427387904) hR (by omega) (show l.length ≤ 1000 by omega)) w3; unfold W128; omega))) (by first | assumption | omega | (have h_ := fit_0 (t := t) (l := l) (by assumption); obtain ⟨ht, hok⟩ := may_0 h_.1; first | assumption | omega | (have h_ := svs_rng hR hx (show l.length ≤ 1000 by omega); unfold W128; omega) | (have h_ := mul_p (svs_rng hR hx (show l.length ≤ 1000 by omega)) ht; unfold W128; omega)) | (obtain ⟨w1, w2, w3, w4, w5⟩ := full_22 hR (t := t) (by assumption); first | assumption | omega | (have h_ := svs_rng (t := (fullW t l).1) hR (by omega) (show l.length ≤ 1000 by omega); unfold W128; omega) | (have h_ := mul_p (svs_rng (t := (fullW t l).1) hR (by omega) (show l.length ≤ 1000 by omega)) w3; unfold W128; omega) | (have h_ := svs_rng (t := 4611686018427387904) hR (by omega) (show l.length ≤ 1000 by omega); unfold W128; omega) | (have h_ := mul_p (svs_rng (t := 4611686018427387904) hR (by omega) (show l.length ≤ 1000 by omega)) w3; unfold W128; omega))) (by first | assumption | omega | (have h_ := fit_0 (t := t) (l := l) (by assumption); obtain ⟨ht, hok⟩ := may_0 h_.1; first | assumption | omega | (have h_ := svs_rng hR hx (show l.length ≤ 1000 by omega); unfold W128; omega) | (have h_ := mul_p (svs_rng hR hx (show l.length ≤ 1000 by omega)) ht; unfold W128; omega)) | (obtain ⟨w1, w2, w3, w4, w5⟩ := full_22 hR (t := t) (by assumption); first | assumption | omega | (have h_ := svs_rng (t := (fullW t l).1) hR (by omega) (show l.length ≤ 1000 by omega); unfold W128; omega) | (have h_ := mul_p (svs_rng (t := (fullW t l).1) hR (by omega) (show l.length ≤ 1000 by omega)) w3; unfold W128; omega) | (have h_ := svs_rng (t := 4611686018427387904) hR (by omega) (show l.length ≤ 1000 by omega); unfold W128; omega) | (have h_ := mul_p (svs_rng (t := 4611686018427387904) hR (by omega) (show l.length ≤ 1000 by omega)) w3; unfold W128; omega))) ww ((rd_old r0 (by simp [feet])) ww ss)), (fun ww ss => carries_spec (svs l x) t x (by first | assumption | omega | (have h_ := fit_0 (t := t) (l := l) (by assumption); obtain ⟨ht, hok⟩ := may_0 h_.1; first | assumption | omega | (have h_ := svs_rng hR hx (show l.length ≤ 1000 by omega); unfold W128; omega) | (have h_ := mul_p (svs_rng hR hx (show l.length ≤ 1000 by omega)) ht; unfold W128; omega)) | (obtain ⟨w1, w2, w3, w4, w5⟩ := full_22 hR (t := t) (by assumption); first | assumption | omega | (have h_ := svs_rng (t := (fullW t l).1) hR (by omega) (show l.length ≤ 1000 by omega); unfold W128; omega) | (have h_ := mul_p (svs_rng (t := (fullW t l).1) hR (by omega) (show l.length ≤ 1000 by omega)) w3; unfold W128; omega) | (have h_ := svs_rng (t := 4611686018427387904) hR (by omega) (show l.length ≤ 1000 by omega); unfold W128; omega) | (have h_ := mul_p (svs_rng (t := 4611686018427387904) hR (by omega) (show l.length ≤ 1000 by omega)) w3; unfold W128; omega))) (by first | assumption | omega | (have h_ := fit_0 (t := t) (l := l) (by assumption); obtain ⟨ht, hok⟩ := may_0 h_.1; first | assumption | omega | (have h_ := svs_rng hR hx (show l.length ≤ 1000 by omega); unfold W128; omega) | (have h_ := mul_p (svs_rng hR hx (show l.length ≤ 1000 by omega)) ht; unfold W128; omega)) | (obtain ⟨w1, w2, w3, w4, w5⟩ := full_22 hR (t := t) (by assumption); first | assumption | omega | (have h_ := svs_rng (t := (fullW t l).1) hR (by omega) (show l.length ≤ 1000 by omega); unfold W128; omega) | (have h_ := mul_p (svs_rng (t := (fullW t l).1) hR (by omega) (show l.length ≤ 1000 by omega)) w3; unfold W128; omega) | (have h_ := svs_rng (t := 4611686018427387904) hR (by omega) (show l.length ≤ 1000 by omega); unfold W128; omega) | (have h_ := mul_p (svs_rng (t := 4611686018427387904) hR (by omega) (show l.length ≤ 1000 by omega)) w3; unfold W128; omega))) (by first | assumption | omega | (have h_ := fit_0 (t := t) (l := l) (by assumption); obtain ⟨ht, hok⟩ := may_0 h_.1; first | assumption | omega | (have h_ := svs_rng hR hx (show l.length ≤ 1000 by omega); unfold W128; omega) | (have h_ := mul_p (svs_rng hR hx (show l.length ≤ 1000 by omega)) ht; unfold W128; omega)) | (obtain ⟨w1, w2, w3, w4, w5⟩ := full_22 hR (t := t) (by assumption); first | assumption | omega | (have h_ := svs_rng (t := (fullW t l).1) hR (by omega) (show l.length ≤ 1000 by omega); unfold W128; omega) | (have h_ := mul_p (svs_rng (t := (fullW t l).1) hR (by omega) (show l.length ≤ 1000 by omega)) w3; unfold W128; omega) | (have h_ := svs_rng (t := 4611686018427387904) hR (by omega) (show l.length ≤ 1000 by omega); unfold W128; omega) | (have h_ := mul_p (svs_rng (t := 4611686018427387904) hR (by omega) (show l.length ≤ 1000 by omega)) w3; unfold W128; omega))) (by first | assumption | omega | (have h_ := fit_0 (t := t) (l := l) (by assumption); obtain ⟨ht, hok⟩ := may_0 h_.1; first | assumption | omega | (have h_ := svs_rng hR hx (show l.length ≤ 1000 by omega); unfold W128; omega) | (have h_ := mul_p (svs_rng hR hx (show l.length ≤ 1000 by omega)) ht; unfold W128; omega)) | (obtain ⟨w1, w2, w3, w4, w5⟩ := full_22 hR (t := t) (by assumption); first | assumption | omega | (have h_ := svs_rng (t := (fullW t l).1) hR (by omega) (show l.length ≤ 1000 by omega); unfold W128; omega) | (have h_ := mul_p (svs_rng (t := (fullW t l).1) hR (by omega) (show l.length ≤ 1000 by omega)) w3; unfold W128; omega) | (have h_ := svs_rng (t := 4611686018427387904) hR (by omega) (show l.length ≤ 1000 by omega); unfold W128; omega) | (have h_ := mul_p (svs_rng (t := 4611686018427387904) hR (by omega) (show l.length ≤ 1000 by omega)) w3; unfold W128; omega))) ww), (fun h_ => (fun ww ss => whole_spec ww)), trivial⟩ ?_))
      refine A.tn (A.ret (A.br (A.tr (A.postQ [b_ ((decide ((svs l x) * t ≤ 65536 * x)) && true)] (fun aa ww rr ss => ⟨rv_tmp rr rfl, trivial⟩) ?_))))
      show ((b_ ((decide ((svs l x) * t ≤ 65536 * x)) && true)) : Value) = (b_ true)
      first | rfl | (refine congrArg Value.bool ?_; first | (have h_ := holds_0 hR (t := t) (by assumption) hx.1; simp [h_]; done) | (obtain ⟨w1, w2, w3, w4, w5⟩ := full_22 hR (t := t) (by assumption); simp_all; done) | (obtain ⟨w1, w2, w3, w4, w5⟩ := full_22 hR (t := t) (by assumption); simp; omega))
    · skip
      have p2 := e2; try simp only [nrm] at p2
      refine A.seq (A.region (A.goA [.p, .p] [(0, i_ t), (1, vS al l cl), (2, u_ x), (6, b_ false), (15, b_ ((decide ((l.length : Int) > 64)) || (decide (x > 4611686018427387904)))), (19, i_ (fitE t l)), (20, b_ ((fitE t l) == 0)), (31, b_ ((fitE t l) == 22))] [] T0 (by kernel_rfl) trivial ?_))
      refine A.tn (A.cond (E := (fitE t l) == 22) rfl (fun e3 => ?_) (fun e3 => ?_))
      · skip
        have p3 := e3; try simp only [nrm] at p3
        refine A.seq (A.region (A.goA [.p, .p, .cq (.tuple #[u_ ((fullW t l).1), b_ ((fullW t l).2)]), .p, .p, .p, .p, .p] [(0, i_ t), (1, vS al l cl), (2, u_ x), (6, b_ false), (15, b_ ((decide ((l.length : Int) > 64)) || (decide (x > 4611686018427387904)))), (19, i_ (fitE t l)), (20, b_ ((fitE t l) == 0)), (31, b_ ((fitE t l) == 22)), (7, u_ ((fullW t l).1)), (8, b_ ((fullW t l).2))] [] (fun κ => κ.call 12 [i_ t, vS al l cl] (.tuple #[u_ ((fullW t l).1), b_ ((fullW t l).2)]) ∧ True) (by kernel_rfl) ⟨(fun ww ss => full_spec t al l cl (by first | assumption | omega | (have h_ := fit_0 (t := t) (l := l) (by assumption); obtain ⟨ht, hok⟩ := may_0 h_.1; first | assumption | omega | (have h_ := svs_rng hR hx (show l.length ≤ 1000 by omega); unfold W128; omega) | (have h_ := mul_p (svs_rng hR hx (show l.length ≤ 1000 by omega)) ht; unfold W128; omega)) | (obtain ⟨w1, w2, w3, w4, w5⟩ := full_22 hR (t := t) (by assumption); first | assumption | omega | (have h_ := svs_rng (t := (fullW t l).1) hR (by omega) (show l.length ≤ 1000 by omega); unfold W128; omega) | (have h_ := mul_p (svs_rng (t := (fullW t l).1) hR (by omega) (show l.length ≤ 1000 by omega)) w3; unfold W128; omega) | (have h_ := svs_rng (t := 4611686018427387904) hR (by omega) (show l.length ≤ 1000 by omega); unfold W128; omega) | (have h_ := mul_p (svs_rng (t := 4611686018427387904) hR (by omega) (show l.length ≤ 1000 by omega)) w3; unfold W128; omega))) (by first | assumption | omega | (have h_ := fit_0 (t := t) (l := l) (by assumption); obtain ⟨ht, hok⟩ := may_0 h_.1; first | assumption | omega | (have h_ := svs_rng hR hx (show l.length ≤ 1000 by omega); unfold W128; omega) | (have h_ := mul_p (svs_rng hR hx (show l.length ≤ 1000 by omega)) ht; unfold W128; omega)) | (obtain ⟨w1, w2, w3, w4, w5⟩ := full_22 hR (t := t) (by assumption); first | assumption | omega | (have h_ := svs_rng (t := (fullW t l).1) hR (by omega) (show l.length ≤ 1000 by omega); unfold W128; omega) | (have h_ := mul_p (svs_rng (t := (fullW t l).1) hR (by omega) (show l.length ≤ 1000 by omega)) w3; unfold W128; omega) | (have h_ := svs_rng (t := 4611686018427387904) hR (by omega) (show l.length ≤ 1000 by omega); unfold W128; omega) | (have h_ := mul_p (svs_rng (t := 4611686018427387904) hR (by omega) (show l.length ≤ 1000 by omega)) w3; unfold W128; omega))) ww ((rd_old r0 (by simp [feet])) ww ss)), trivial⟩ ?_))
        refine A.tn (A.seq (A.seq (A.region (A.goA [.p, .p, .o, .p, .p, .cl] [(0, i_ t), (1, vS al l cl), (2, u_ x), (6, b_ false), (15, b_ ((decide ((l.length : Int) > 64)) || (decide (x > 4611686018427387904)))), (19, i_ (fitE t l)), (20, b_ ((fitE t l) == 0)), (31, b_ ((fitE t l) == 22)), (7, u_ ((fullW t l).1)), (8, b_ ((fullW t l).2)), (43, b_ (((fullW t l).2) && (((fullW t l).1) == 0)))] [] T0 (by kernel_rfl) trivial ?_))))
        refine A.tn (A.cond (E := ((fullW t l).2) && (((fullW t l).1) == 0)) rfl (fun e4 => ?_) (fun e4 => ?_))
        · skip
          have p4 := e4; try simp only [nrm] at p4
          refine A.region (A.goA [.p] [(0, i_ t), (1, vS al l cl), (2, u_ x), (6, b_ false), (15, b_ ((decide ((l.length : Int) > 64)) || (decide (x > 4611686018427387904)))), (19, i_ (fitE t l)), (20, b_ ((fitE t l) == 0)), (31, b_ ((fitE t l) == 22)), (7, u_ 4611686018427387904), (8, b_ ((fullW t l).2)), (43, b_ (((fullW t l).2) && (((fullW t l).1) == 0)))] [] T0 (by kernel_rfl) trivial ?_)
          refine A.tn (A.seq (A.region (A.goA [.p, .p, .o, .p, .p, .cq (.agg #[u_ (dA (svs l 4611686018427387904)), u_ (dB (svs l 4611686018427387904)), u_ (dC (svs l 4611686018427387904)), u_ (dD (svs l 4611686018427387904))]), .p, .p, .cq (b_ (decide ((svs l 4611686018427387904) * t ≤ 65536 * 4611686018427387904))), .p, .cl, .p, .o, .cq (b_ true), .cl, .p] [(0, i_ t), (1, vS al l cl), (2, u_ x), (6, b_ ((((fullW t l).2) && (!(decide ((svs l 4611686018427387904) * t ≤ 65536 * 4611686018427387904)))) && true)), (15, b_ ((decide ((l.length : Int) > 64)) || (decide (x > 4611686018427387904)))), (19, i_ (fitE t l)), (20, b_ ((fitE t l) == 0)), (31, b_ ((fitE t l) == 22)), (7, u_ 4611686018427387904), (8, b_ ((fullW t l).2)), (43, b_ (((fullW t l).2) && (((fullW t l).1) == 0)))] [] (fun κ => ((true && (((fullW t l).2) == true)) = true → κ.call 17 [vS al l cl, u_ 4611686018427387904] (.agg #[u_ (dA (svs l 4611686018427387904)), u_ (dB (svs l 4611686018427387904)), u_ (dC (svs l 4611686018427387904)), u_ (dD (svs l 4611686018427387904))])) ∧ ((true && (((fullW t l).2) == true)) = true → κ.call 16 [(.agg #[u_ (dA (svs l 4611686018427387904)), u_ (dB (svs l 4611686018427387904)), u_ (dC (svs l 4611686018427387904)), u_ (dD (svs l 4611686018427387904))]), i_ t, u_ 4611686018427387904] (b_ (decide ((svs l 4611686018427387904) * t ≤ 65536 * 4611686018427387904)))) ∧ ((true && ((((fullW t l).2) && (!(decide ((svs l 4611686018427387904) * t ≤ 65536 * 4611686018427387904)))) == true)) = true → κ.call 11 [] (b_ true)) ∧ True) (by kernel_rfl) ⟨(fun h_ => (fun ww ss => rssv_spec al l cl 4611686018427387904 (by first | assumption | omega | (have h_ := fit_0 (t := t) (l := l) (by assumption); obtain ⟨ht, hok⟩ := may_0 h_.1; first | assumption | omega | (have h_ := svs_rng hR hx (show l.length ≤ 1000 by omega); unfold W128; omega) | (have h_ := mul_p (svs_rng hR hx (show l.length ≤ 1000 by omega)) ht; unfold W128; omega)) | (obtain ⟨w1, w2, w3, w4, w5⟩ := full_22 hR (t := t) (by assumption); first | assumption | omega | (have h_ := svs_rng (t := (fullW t l).1) hR (by omega) (show l.length ≤ 1000 by omega); unfold W128; omega) | (have h_ := mul_p (svs_rng (t := (fullW t l).1) hR (by omega) (show l.length ≤ 1000 by omega)) w3; unfold W128; omega) | (have h_ := svs_rng (t := 4611686018427387904) hR (by omega) (show l.length ≤ 1000 by omega); unfold W128; omega) | (have h_ := mul_p (svs_rng (t := 4611686018427387904) hR (by omega) (show l.length ≤ 1000 by omega)) w3; unfold W128; omega))) (by first | assumption | omega | (have h_ := fit_0 (t := t) (l := l) (by assumption); obtain ⟨ht, hok⟩ := may_0 h_.1; first | assumption | omega | (have h_ := svs_rng hR hx (show l.length ≤ 1000 by omega); unfold W128; omega) | (have h_ := mul_p (svs_rng hR hx (show l.length ≤ 1000 by omega)) ht; unfold W128; omega)) | (obtain ⟨w1, w2, w3, w4, w5⟩ := full_22 hR (t := t) (by assumption); first | assumption | omega | (have h_ := svs_rng (t := (fullW t l).1) hR (by omega) (show l.length ≤ 1000 by omega); unfold W128; omega) | (have h_ := mul_p (svs_rng (t := (fullW t l).1) hR (by omega) (show l.length ≤ 1000 by omega)) w3; unfold W128; omega) | (have h_ := svs_rng (t := 4611686018427387904) hR (by omega) (show l.length ≤ 1000 by omega); unfold W128; omega) | (have h_ := mul_p (svs_rng (t := 4611686018427387904) hR (by omega) (show l.length ≤ 1000 by omega)) w3; unfold W128; omega))) (by first | assumption | omega | (have h_ := fit_0 (t := t) (l := l) (by assumption); obtain ⟨ht, hok⟩ := may_0 h_.1; first | assumption | omega | (have h_ := svs_rng hR hx (show l.length ≤ 1000 by omega); unfold W128; omega) | (have h_ := mul_p (svs_rng hR hx (show l.length ≤ 1000 by omega)) ht; unfold W128; omega)) | (obtain ⟨w1, w2, w3, w4, w5⟩ := full_22 hR (t := t) (by assumption); first | assumption | omega | (have h_ := svs_rng (t := (fullW t l).1) hR (by omega) (show l.length ≤ 1000 by omega); unfold W128; omega) | (have h_ := mul_p (svs_rng (t := (fullW t l).1) hR (by omega) (show l.length ≤ 1000 by omega)) w3; unfold W128; omega) | (have h_ := svs_rng (t := 4611686018427387904) hR (by omega) (show l.length ≤ 1000 by omega); unfold W128; omega) | (have h_ := mul_p (svs_rng (t := 4611686018427387904) hR (by omega) (show l.length ≤ 1000 by omega)) w3; unfold W128; omega))) ww ((rd_old r0 (by simp [feet])) ww ss))), (fun h_ => (fun ww ss => carries_spec (svs l 4611686018427387904) t 4611686018427387904 (by first | assumption | omega | (have h_ := fit_0 (t := t) (l := l) (by assumption); obtain ⟨ht, hok⟩ := may_0 h_.1; first | assumption | omega | (have h_ := svs_rng hR hx (show l.length ≤ 1000 by omega); unfold W128; omega) | (have h_ := mul_p (svs_rng hR hx (show l.length ≤ 1000 by omega)) ht; unfold W128; omega)) | (obtain ⟨w1, w2, w3, w4, w5⟩ := full_22 hR (t := t) (by assumption); first | assumption | omega | (have h_ := svs_rng (t := (fullW t l).1) hR (by omega) (show l.length ≤ 1000 by omega); unfold W128; omega) | (have h_ := mul_p (svs_rng (t := (fullW t l).1) hR (by omega) (show l.length ≤ 1000 by omega)) w3; unfold W128; omega) | (have h_ := svs_rng (t := 4611686018427387904) hR (by omega) (show l.length ≤ 1000 by omega); unfold W128; omega) | (have h_ := mul_p (svs_rng (t := 4611686018427387904) hR (by omega) (show l.length ≤ 1000 by omega)) w3; unfold W128; omega))) (by first | assumption | omega | (have h_ := fit_0 (t := t) (l := l) (by assumption); obtain ⟨ht, hok⟩ := may_0 h_.1; first | assumption | omega | (have h_ := svs_rng hR hx (show l.length ≤ 1000 by omega); unfold W128; omega) | (have h_ := mul_p (svs_rng hR hx (show l.length ≤ 1000 by omega)) ht; unfold W128; omega)) | (obtain ⟨w1, w2, w3, w4, w5⟩ := full_22 hR (t := t) (by assumption); first | assumption | omega | (have h_ := svs_rng (t := (fullW t l).1) hR (by omega) (show l.length ≤ 1000 by omega); unfold W128; omega) | (have h_ := mul_p (svs_rng (t := (fullW t l).1) hR (by omega) (show l.length ≤ 1000 by omega)) w3; unfold W128; omega) | (have h_ := svs_rng (t := 4611686018427387904) hR (by omega) (show l.length ≤ 1000 by omega); unfold W128; omega) | (have h_ := mul_p (svs_rng (t := 4611686018427387904) hR (by omega) (show l.length ≤ 1000 by omega)) w3; unfold W128; omega))) (by first | assumption | omega | (have h_ := fit_0 (t := t) (l := l) (by assumption); obtain ⟨ht, hok⟩ := may_0 h_.1; first | assumption | omega | (have h_ := svs_rng hR hx (show l.length ≤ 1000 by omega); unfold W128; omega) | (have h_ := mul_p (svs_rng hR hx (show l.length ≤ 1000 by omega)) ht; unfold W128; omega)) | (obtain ⟨w1, w2, w3, w4, w5⟩ := full_22 hR (t := t) (by assumption); first | assumption | omega | (have h_ := svs_rng (t := (fullW t l).1) hR (by omega) (show l.length ≤ 1000 by omega); unfold W128; omega) | (have h_ := mul_p (svs_rng (t := (fullW t l).1) hR (by omega) (show l.length ≤ 1000 by omega)) w3; unfold W128; omega) | (have h_ := svs_rng (t := 4611686018427387904) hR (by omega) (show l.length ≤ 1000 by omega); unfold W128; omega) | (have h_ := mul_p (svs_rng (t := 4611686018427387904) hR (by omega) (show l.length ≤ 1000 by omega)) w3; unfold W128; omega))) (by first | assumption | omega | (have h_ := fit_0 (t := t) (l := l) (by assumption); obtain ⟨ht, hok⟩ := may_0 h_.1; first | assumption | omega | (have h_ := svs_rng hR hx (show l.length ≤ 1000 by omega); unfold W128; omega) | (have h_ := mul_p (svs_rng hR hx (show l.length ≤ 1000 by omega)) ht; unfold W128; omega)) | (obtain ⟨w1, w2, w3, w4, w5⟩ := full_22 hR (t := t) (by assumption); first | assumption | omega | (have h_ := svs_rng (t := (fullW t l).1) hR (by omega) (show l.length ≤ 1000 by omega); unfold W128; omega) | (have h_ := mul_p (svs_rng (t := (fullW t l).1) hR (by omega) (show l.length ≤ 1000 by omega)) w3; unfold W128; omega) | (have h_ := svs_rng (t := 4611686018427387904) hR (by omega) (show l.length ≤ 1000 by omega); unfold W128; omega) | (have h_ := mul_p (svs_rng (t := 4611686018427387904) hR (by omega) (show l.length ≤ 1000 by omega)) w3; unfold W128; omega))) ww)), (fun h_ => (fun ww ss => whole_spec ww)), trivial⟩ ?_)))
          refine A.tn (A.ret (A.br (A.tr (A.postQ [b_ ((((fullW t l).2) && (!(decide ((svs l 4611686018427387904) * t ≤ 65536 * 4611686018427387904)))) && true)] (fun aa ww rr ss => ⟨rv_tmp rr rfl, trivial⟩) ?_))))
          show ((b_ ((((fullW t l).2) && (!(decide ((svs l 4611686018427387904) * t ≤ 65536 * 4611686018427387904)))) && true)) : Value) = (b_ true)
          first | rfl | (refine congrArg Value.bool ?_; first | (have h_ := holds_0 hR (t := t) (by assumption) hx.1; simp [h_]; done) | (obtain ⟨w1, w2, w3, w4, w5⟩ := full_22 hR (t := t) (by assumption); simp_all; done) | (obtain ⟨w1, w2, w3, w4, w5⟩ := full_22 hR (t := t) (by assumption); simp; omega))
        · skip
          have p4 := e4; try simp only [nrm] at p4
          refine A.skip (A.tn (A.seq (A.region (A.goA [.p, .p, .o, .p, .p, .cq (.agg #[u_ (dA (svs l ((fullW t l).1))), u_ (dB (svs l ((fullW t l).1))), u_ (dC (svs l ((fullW t l).1))), u_ (dD (svs l ((fullW t l).1)))]), .p, .p, .cq (b_ (decide ((svs l ((fullW t l).1)) * t ≤ 65536 * ((fullW t l).1)))), .p, .cl, .p, .o, .cq (b_ true), .cl, .p] [(0, i_ t), (1, vS al l cl), (2, u_ x), (6, b_ ((((fullW t l).2) && (!(decide ((svs l ((fullW t l).1)) * t ≤ 65536 * ((fullW t l).1))))) && true)), (15, b_ ((decide ((l.length : Int) > 64)) || (decide (x > 4611686018427387904)))), (19, i_ (fitE t l)), (20, b_ ((fitE t l) == 0)), (31, b_ ((fitE t l) == 22)), (7, u_ ((fullW t l).1)), (8, b_ ((fullW t l).2)), (43, b_ (((fullW t l).2) && (((fullW t l).1) == 0)))] [] (fun κ => ((true && (((fullW t l).2) == true)) = true → κ.call 17 [vS al l cl, u_ ((fullW t l).1)] (.agg #[u_ (dA (svs l ((fullW t l).1))), u_ (dB (svs l ((fullW t l).1))), u_ (dC (svs l ((fullW t l).1))), u_ (dD (svs l ((fullW t l).1)))])) ∧ ((true && (((fullW t l).2) == true)) = true → κ.call 16 [(.agg #[u_ (dA (svs l ((fullW t l).1))), u_ (dB (svs l ((fullW t l).1))), u_ (dC (svs l ((fullW t l).1))), u_ (dD (svs l ((fullW t l).1)))]), i_ t, u_ ((fullW t l).1)] (b_ (decide ((svs l ((fullW t l).1)) * t ≤ 65536 * ((fullW t l).1))))) ∧ ((true && ((((fullW t l).2) && (!(decide ((svs l ((fullW t l).1)) * t ≤ 65536 * ((fullW t l).1))))) == true)) = true → κ.call 11 [] (b_ true)) ∧ True) (by kernel_rfl) ⟨(fun h_ => (fun ww ss => rssv_spec al l cl ((fullW t l).1) (by first | assumption | omega | (have h_ := fit_0 (t := t) (l := l) (by assumption); obtain ⟨ht, hok⟩ := may_0 h_.1; first | assumption | omega | (have h_ := svs_rng hR hx (show l.length ≤ 1000 by omega); unfold W128; omega) | (have h_ := mul_p (svs_rng hR hx (show l.length ≤ 1000 by omega)) ht; unfold W128; omega)) | (obtain ⟨w1, w2, w3, w4, w5⟩ := full_22 hR (t := t) (by assumption); first | assumption | omega | (have h_ := svs_rng (t := (fullW t l).1) hR (by omega) (show l.length ≤ 1000 by omega); unfold W128; omega) | (have h_ := mul_p (svs_rng (t := (fullW t l).1) hR (by omega) (show l.length ≤ 1000 by omega)) w3; unfold W128; omega) | (have h_ := svs_rng (t := 4611686018427387904) hR (by omega) (show l.length ≤ 1000 by omega); unfold W128; omega) | (have h_ := mul_p (svs_rng (t := 4611686018427387904) hR (by omega) (show l.length ≤ 1000 by omega)) w3; unfold W128; omega))) (by first | assumption | omega | (have h_ := fit_0 (t := t) (l := l) (by assumption); obtain ⟨ht, hok⟩ := may_0 h_.1; first | assumption | omega | (have h_ := svs_rng hR hx (show l.length ≤ 1000 by omega); unfold W128; omega) | (have h_ := mul_p (svs_rng hR hx (show l.length ≤ 1000 by omega)) ht; unfold W128; omega)) | (obtain ⟨w1, w2, w3, w4, w5⟩ := full_22 hR (t := t) (by assumption); first | assumption | omega | (have h_ := svs_rng (t := (fullW t l).1) hR (by omega) (show l.length ≤ 1000 by omega); unfold W128; omega) | (have h_ := mul_p (svs_rng (t := (fullW t l).1) hR (by omega) (show l.length ≤ 1000 by omega)) w3; unfold W128; omega) | (have h_ := svs_rng (t := 4611686018427387904) hR (by omega) (show l.length ≤ 1000 by omega); unfold W128; omega) | (have h_ := mul_p (svs_rng (t := 4611686018427387904) hR (by omega) (show l.length ≤ 1000 by omega)) w3; unfold W128; omega))) (by first | assumption | omega | (have h_ := fit_0 (t := t) (l := l) (by assumption); obtain ⟨ht, hok⟩ := may_0 h_.1; first | assumption | omega | (have h_ := svs_rng hR hx (show l.length ≤ 1000 by omega); unfold W128; omega) | (have h_ := mul_p (svs_rng hR hx (show l.length ≤ 1000 by omega)) ht; unfold W128; omega)) | (obtain ⟨w1, w2, w3, w4, w5⟩ := full_22 hR (t := t) (by assumption); first | assumption | omega | (have h_ := svs_rng (t := (fullW t l).1) hR (by omega) (show l.length ≤ 1000 by omega); unfold W128; omega) | (have h_ := mul_p (svs_rng (t := (fullW t l).1) hR (by omega) (show l.length ≤ 1000 by omega)) w3; unfold W128; omega) | (have h_ := svs_rng (t := 4611686018427387904) hR (by omega) (show l.length ≤ 1000 by omega); unfold W128; omega) | (have h_ := mul_p (svs_rng (t := 4611686018427387904) hR (by omega) (show l.length ≤ 1000 by omega)) w3; unfold W128; omega))) ww ((rd_old r0 (by simp [feet])) ww ss))), (fun h_ => (fun ww ss => carries_spec (svs l ((fullW t l).1)) t ((fullW t l).1) (by first | assumption | omega | (have h_ := fit_0 (t := t) (l := l) (by assumption); obtain ⟨ht, hok⟩ := may_0 h_.1; first | assumption | omega | (have h_ := svs_rng hR hx (show l.length ≤ 1000 by omega); unfold W128; omega) | (have h_ := mul_p (svs_rng hR hx (show l.length ≤ 1000 by omega)) ht; unfold W128; omega)) | (obtain ⟨w1, w2, w3, w4, w5⟩ := full_22 hR (t := t) (by assumption); first | assumption | omega | (have h_ := svs_rng (t := (fullW t l).1) hR (by omega) (show l.length ≤ 1000 by omega); unfold W128; omega) | (have h_ := mul_p (svs_rng (t := (fullW t l).1) hR (by omega) (show l.length ≤ 1000 by omega)) w3; unfold W128; omega) | (have h_ := svs_rng (t := 4611686018427387904) hR (by omega) (show l.length ≤ 1000 by omega); unfold W128; omega) | (have h_ := mul_p (svs_rng (t := 4611686018427387904) hR (by omega) (show l.length ≤ 1000 by omega)) w3; unfold W128; omega))) (by first | assumption | omega | (have h_ := fit_0 (t := t) (l := l) (by assumption); obtain ⟨ht, hok⟩ := may_0 h_.1; first | assumption | omega | (have h_ := svs_rng hR hx (show l.length ≤ 1000 by omega); unfold W128; omega) | (have h_ := mul_p (svs_rng hR hx (show l.length ≤ 1000 by omega)) ht; unfold W128; omega)) | (obtain ⟨w1, w2, w3, w4, w5⟩ := full_22 hR (t := t) (by assumption); first | assumption | omega | (have h_ := svs_rng (t := (fullW t l).1) hR (by omega) (show l.length ≤ 1000 by omega); unfold W128; omega) | (have h_ := mul_p (svs_rng (t := (fullW t l).1) hR (by omega) (show l.length ≤ 1000 by omega)) w3; unfold W128; omega) | (have h_ := svs_rng (t := 4611686018427387904) hR (by omega) (show l.length ≤ 1000 by omega); unfold W128; omega) | (have h_ := mul_p (svs_rng (t := 4611686018427387904) hR (by omega) (show l.length ≤ 1000 by omega)) w3; unfold W128; omega))) (by first | assumption | omega | (have h_ := fit_0 (t := t) (l := l) (by assumption); obtain ⟨ht, hok⟩ := may_0 h_.1; first | assumption | omega | (have h_ := svs_rng hR hx (show l.length ≤ 1000 by omega); unfold W128; omega) | (have h_ := mul_p (svs_rng hR hx (show l.length ≤ 1000 by omega)) ht; unfold W128; omega)) | (obtain ⟨w1, w2, w3, w4, w5⟩ := full_22 hR (t := t) (by assumption); first | assumption | omega | (have h_ := svs_rng (t := (fullW t l).1) hR (by omega) (show l.length ≤ 1000 by omega); unfold W128; omega) | (have h_ := mul_p (svs_rng (t := (fullW t l).1) hR (by omega) (show l.length ≤ 1000 by omega)) w3; unfold W128; omega) | (have h_ := svs_rng (t := 4611686018427387904) hR (by omega) (show l.length ≤ 1000 by omega); unfold W128; omega) | (have h_ := mul_p (svs_rng (t := 4611686018427387904) hR (by omega) (show l.length ≤ 1000 by omega)) w3; unfold W128; omega))) (by first | assumption | omega | (have h_ := fit_0 (t := t) (l := l) (by assumption); obtain ⟨ht, hok⟩ := may_0 h_.1; first | assumption | omega | (have h_ := svs_rng hR hx (show l.length ≤ 1000 by omega); unfold W128; omega) | (have h_ := mul_p (svs_rng hR hx (show l.length ≤ 1000 by omega)) ht; unfold W128; omega)) | (obtain ⟨w1, w2, w3, w4, w5⟩ := full_22 hR (t := t) (by assumption); first | assumption | omega | (have h_ := svs_rng (t := (fullW t l).1) hR (by omega) (show l.length ≤ 1000 by omega); unfold W128; omega) | (have h_ := mul_p (svs_rng (t := (fullW t l).1) hR (by omega) (show l.length ≤ 1000 by omega)) w3; unfold W128; omega) | (have h_ := svs_rng (t := 4611686018427387904) hR (by omega) (show l.length ≤ 1000 by omega); unfold W128; omega) | (have h_ := mul_p (svs_rng (t := 4611686018427387904) hR (by omega) (show l.length ≤ 1000 by omega)) w3; unfold W128; omega))) ww)), (fun h_ => (fun ww ss => whole_spec ww)), trivial⟩ ?_))))
          refine A.tn (A.ret (A.br (A.tr (A.postQ [b_ ((((fullW t l).2) && (!(decide ((svs l ((fullW t l).1)) * t ≤ 65536 * ((fullW t l).1))))) && true)] (fun aa ww rr ss => ⟨rv_tmp rr rfl, trivial⟩) ?_))))
          show ((b_ ((((fullW t l).2) && (!(decide ((svs l ((fullW t l).1)) * t ≤ 65536 * ((fullW t l).1))))) && true)) : Value) = (b_ true)
          first | rfl | (refine congrArg Value.bool ?_; first | (have h_ := holds_0 hR (t := t) (by assumption) hx.1; simp [h_]; done) | (obtain ⟨w1, w2, w3, w4, w5⟩ := full_22 hR (t := t) (by assumption); simp_all; done) | (obtain ⟨w1, w2, w3, w4, w5⟩ := full_22 hR (t := t) (by assumption); simp; omega))
      · skip
        have p3 := e3; try simp only [nrm] at p3
        refine A.skip (A.bn (A.tn (A.seq (A.region (A.goA [.cq (b_ true), .p] [(0, i_ t), (1, vS al l cl), (2, u_ x), (6, b_ true), (15, b_ ((decide ((l.length : Int) > 64)) || (decide (x > 4611686018427387904)))), (19, i_ (fitE t l)), (20, b_ ((fitE t l) == 0)), (31, b_ ((fitE t l) == 22))] [] (fun κ => κ.call 11 [] (b_ true) ∧ True) (by kernel_rfl) ⟨(fun ww ss => whole_spec ww), trivial⟩ ?_)))))
        refine A.tn (A.ret (A.postQ [b_ true] (fun aa ww rr ss => ⟨rv_tmp rr rfl, trivial⟩) ?_))
        rfl
end Go.Proofs.Ytinnnoimmioaiaa
