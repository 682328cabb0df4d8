/- What the functions of this layer do, proved operation by operation, for all arguments, under the conditions that each theorem states. -/
import Derived.Test.YtdhcglflmkjneaaProg
import Derived.Test.YtdhcglflmkjneaaElt5
namespace Go.Proofs.Ytdhcglflmkjneaa
open Go V
set_option linter.unusedVariables false
set_option linter.unusedSimpArgs false
theorem foldB_min2 : ∀ {L : List It} {a m : It}, foldB (some a) L = some m → (m = a ∨ m ∈ L) ∧ ¬ lessK a.va a.vi m.va m.vi ∧ ∀ y ∈ L, ¬ lessK y.va y.vi m.va m.vi
  | [], a, m, h => by simp [foldB] at h; subst h; exact ⟨.inl rfl, by unfold lessK; omega, by simp⟩
  | z :: L, a, m, h => by
    have h' : foldB (some (bet a z)) L = some m := h
    obtain ⟨h1, h2, h3⟩ := foldB_min2 h'
    rcases bet_or a z with ⟨hb, e⟩ | ⟨hb, e⟩
    · rw [e] at h1 h2
      refine ⟨by rcases h1 with rfl | h1; exact .inr (by simp); exact .inr (by simp [h1]), ?_, ?_⟩
      · unfold bt lessK at *; omega
      · intro y hy; rcases List.mem_cons.1 hy with rfl | hy
        · exact h2
        · exact h3 y hy
    · rw [e] at h1 h2
      refine ⟨by rcases h1 with rfl | h1; exact .inl rfl; exact .inr (by simp [h1]), h2, ?_⟩
      intro y hy; rcases List.mem_cons.1 hy with rfl | hy
      · unfold bt lessK at *; omega
      · exact h3 y hy
theorem belowL_spec (n : Int) (L : List It) : (belowL n L = none ∧ ∀ y ∈ L, ¬ y.ka ≤ n) ∨ ∃ m, belowL n L = some m ∧ m ∈ L ∧ m.ka ≤ n ∧ ∀ y ∈ L, y.ka ≤ n → ¬ lessK y.va y.vi m.va m.vi := by
  unfold belowL
  cases hb : bl n L with
  | nil =>
    left; refine ⟨rfl, fun y hy h => ?_⟩
    have : y ∈ bl n L := List.mem_filter.2 ⟨hy, by simpa using h⟩
    rw [hb] at this; cases this
  | cons a B =>
    right
    have mm : ∀ y, y ∈ a :: B ↔ y ∈ L ∧ y.ka ≤ n := fun y => by rw [← hb]; unfold bl; rw [List.mem_filter]; simp
    have e : foldB none (a :: B) = foldB (some a) B := rfl
    have some_ : ∀ (B : List It) (a : It), ∃ m, foldB (some a) B = some m := by
      intro B; induction B with
      | nil => exact fun a => ⟨a, rfl⟩
      | cons z B ih => exact fun a => ih (bet a z)
    obtain ⟨m, hm⟩ := some_ B a
    obtain ⟨h1, h2, h3⟩ := foldB_min2 hm
    refine ⟨m, by rw [e, hm], ?_⟩
    have hmem : m ∈ a :: B := by rcases h1 with rfl | h1; simp; simp [h1]
    refine ⟨((mm m).1 hmem).1, ((mm m).1 hmem).2, fun y hy hk => ?_⟩
    rcases List.mem_cons.1 ((mm y).2 ⟨hy, hk⟩) with rfl | g
    · exact h2
    · exact h3 y g
theorem pickO_spec (n : Int) (l : List Rw) : ∀ k, match pickO n l k with
    | none => ∀ (j : Nat) r, j < k → l[j]? = some r → ¬ (r.ra ≤ n ∧ r.ra < wnever)
    | some i => ∃ r, l[i]? = some r ∧ r.ra ≤ n ∧ r.ra < wnever ∧ ∀ (j : Nat) s, j < k → l[j]? = some s → s.ra ≤ n → s.ra < wnever → r.rb < s.rb ∨ (r.rb = s.rb ∧ i ≤ j)
  | 0 => by simp only [pickO]; intro j r hj; omega
  | k + 1 => by
    have ih := pickO_spec n l k
    cases hr : l[k]? with
    | none =>
      have e : pickO n l (k + 1) = pickO n l k := by rw [pickO, hr]
      rw [e]; cases hp : pickO n l k with
      | none =>
        rw [hp] at ih; intro j r hj hj2
        rcases Nat.lt_or_ge j k with g | g
        · exact ih j r g hj2
        · have : j = k := by omega
          subst this; rw [hr] at hj2; cases hj2
      | some i =>
        rw [hp] at ih; obtain ⟨r, h1, h2, h3, h4⟩ := ih
        refine ⟨r, h1, h2, h3, fun j s hj hs => ?_⟩
        rcases Nat.lt_or_ge j k with g | g
        · exact h4 j s g hs
        · have : j = k := by omega
          subst this; rw [hr] at hs; cases hs
    | some r =>
      by_cases hc : r.ra ≤ n ∧ r.ra < wnever ∧ betO l r (pickO n l k) = true
      · have e : pickO n l (k + 1) = some k := by rw [pickO, hr]; simp only; rw [if_pos hc]
        rw [e]; refine ⟨r, hr, hc.1, hc.2.1, fun j s hj hs h5 h6 => ?_⟩
        rcases Nat.lt_or_ge j k with g | g
        · cases hp : pickO n l k with
          | none => rw [hp] at ih; exact absurd ⟨h5, h6⟩ (ih j s g hs)
          | some i =>
            rw [hp] at ih; obtain ⟨q, h1, h2, h3, h4⟩ := ih
            have hb := hc.2.2; rw [hp] at hb; simp only [betO, h1] at hb; simp at hb
            have := h4 j s g hs h5 h6; left; omega
        · have : j = k := by omega
          subst this; rw [hr] at hs; cases hs; right; exact ⟨rfl, Nat.le_refl _⟩
      · have e : pickO n l (k + 1) = pickO n l k := by rw [pickO, hr]; simp only; rw [if_neg hc]
        rw [e]; cases hp : pickO n l k with
        | none =>
          rw [hp] at ih hc; intro j s hj hs ⟨h5, h6⟩
          rcases Nat.lt_or_ge j k with g | g
          · exact ih j s g hs ⟨h5, h6⟩
          · have : j = k := by omega
            subst this; rw [hr] at hs; cases hs; exact hc ⟨h5, h6, rfl⟩
        | some i =>
          rw [hp] at ih hc; obtain ⟨q, h1, h2, h3, h4⟩ := ih
          refine ⟨q, h1, h2, h3, fun j s hj hs h5 h6 => ?_⟩
          rcases Nat.lt_or_ge j k with g | g
          · exact h4 j s g hs h5 h6
          · have : j = k := by omega
            subst this; rw [hr] at hs; cases hs
            have hi := (pickO_lt hp).1
            have hb : ¬ r.rb < q.rb := fun hb => hc ⟨h5, h6, by simp only [betO, h1]; simp; exact hb⟩
            omega
theorem rs_le {R : List Rw} (h : RS R) {i j : Nat} {r s : Rw} (hr : R[i]? = some r) (hs : R[j]? = some s) : (i ≤ j → r.ri ≤ s.ri) ∧ (r.ri ≤ s.ri → i ≤ j) := by
  obtain ⟨h1, h2⟩ := List.getElem?_eq_some_iff.1 hr
  obtain ⟨h3, h4⟩ := List.getElem?_eq_some_iff.1 hs
  rcases Nat.lt_trichotomy i j with g | g | g
  · have := List.pairwise_iff_getElem.1 h i j h1 h3 g; rw [h2, h4] at this; exact ⟨fun _ => by omega, fun _ => by omega⟩
  · subst g; rw [hr] at hs; cases hs; exact ⟨fun _ => Int.le_refl _, fun _ => Nat.le_refl _⟩
  · have := List.pairwise_iff_getElem.1 h j i h3 h1 g; rw [h2, h4] at this; exact ⟨fun _ => by omega, fun _ => by omega⟩
theorem now_le {x n : Int} : x ≤ imin n 9223372036854775807 ↔ x ≤ n ∧ x < wnever := by rw [imin_eq]; unfold wnever; omega
theorem pick_el {t : T} {kv : List (Int × It)} {R : List Rw} (hE : ERel t kv) (h : KRel kv R) (n : Int) :
    ((belowL (imin n 9223372036854775807) t.toL).getD default).ki = mkI R (pickO n R R.length) ∧ (belowL (imin n 9223372036854775807) t.toL).isSome = decide (0 ≤ oI (pickO n R R.length)) := by
  have hp := pickO_spec n R R.length
  have hm := toL_mem hE h
  rcases belowL_spec (imin n 9223372036854775807) t.toL with ⟨e, hn⟩ | ⟨m, e, hmm, hka, hmin⟩
  · rw [e]; cases hq : pickO n R R.length with
    | none => exact ⟨rfl, rfl⟩
    | some i =>
      rw [hq] at hp; obtain ⟨r, h1, h2, h3, _⟩ := hp
      exact absurd (now_le.2 ⟨h2, h3⟩) (hn (itR r) ((hm _).2 ⟨r, List.mem_of_getElem? h1, rfl⟩))
  · rw [e]; obtain ⟨s, hs, rfl⟩ := (hm m).1 hmm
    obtain ⟨j, hj⟩ := List.mem_iff_getElem?.1 hs
    have hjl := (List.getElem?_eq_some_iff.1 hj).1
    obtain ⟨ho1, ho2⟩ := now_le.1 hka
    cases hq : pickO n R R.length with
    | none => rw [hq] at hp; exact absurd ⟨ho1, ho2⟩ (hp j s hjl hj)
    | some i =>
      rw [hq] at hp; obtain ⟨r, h1, h2, h3, h4⟩ := hp
      have h5 := h4 j s hjl hj ho1 ho2
      have h6 := hmin (itR r) ((hm _).2 ⟨r, List.mem_of_getElem? h1, rfl⟩) (now_le.2 ⟨h2, h3⟩)
      have h7 := rs_le h.srt h1 hj
      have h8 : r.ri = s.ri := by
        unfold lessK at h6; simp only [itR] at h6; omega
      refine ⟨?_, ?_⟩
      · simp only [Option.getD_some, itR, mkI, h1]; exact h8.symm
      · simp [oI]
theorem pick_vt {t : T} {kv : List (Int × It)} {R : List Rw} (hE : ERel t kv) (h : KRel kv R) (n : Int) :
    ((firstL (imin n 9223372036854775807) t.toL).getD default).ki = mkI (R.map trn) (pickO n (R.map trn) (R.map trn).length) ∧ (firstL (imin n 9223372036854775807) t.toL).isSome = decide (0 ≤ oI (pickO n (R.map trn) (R.map trn).length)) := by
  have hp := pickO_spec n (R.map trn) (R.map trn).length
  have hm := toL_mem hE h
  have ht : ∀ {i : Nat} {r' : Rw}, (R.map trn)[i]? = some r' → ∃ r, R[i]? = some r ∧ r' = trn r := fun {i r'} hi => by
    rw [List.getElem?_map] at hi; cases hr : R[i]? with
    | none => rw [hr] at hi; cases hi
    | some r => rw [hr] at hi; exact ⟨r, rfl, by simpa using hi.symm⟩
  unfold firstL
  cases hf : t.toL.find? (fun y => decide (y.va ≤ imin n 9223372036854775807)) with
  | none =>
    have hn := List.find?_eq_none.1 hf
    cases hq : pickO n (R.map trn) (R.map trn).length with
    | none => exact ⟨rfl, rfl⟩
    | some i =>
      rw [hq] at hp; obtain ⟨r', h1, h2, h3, _⟩ := hp
      obtain ⟨r, hr, rfl⟩ := ht h1
      have := hn (itR r) ((hm _).2 ⟨r, List.mem_of_getElem? hr, rfl⟩)
      have h9 : (itR r).va = (trn r).ra := rfl; have h10 := now_le.2 ⟨h2, h3⟩; simp at this; omega
  | some y =>
    obtain ⟨hy, A, B, hL, hA⟩ := List.find?_eq_some_iff_append.1 hf
    have hok : y.va ≤ imin n 9223372036854775807 := by simpa using hy
    have hyL : y ∈ t.toL := by rw [hL]; simp
    have hS := hE.wf.srt; rw [hL] at hS
    obtain ⟨_, _, _, hB, _⟩ := srt_mid hS
    obtain ⟨s, hs, rfl⟩ := (hm y).1 hyL
    obtain ⟨j, hj⟩ := List.mem_iff_getElem?.1 hs
    have hj' : (R.map trn)[j]? = some (trn s) := by rw [List.getElem?_map, hj]; rfl
    have hjl := (List.getElem?_eq_some_iff.1 hj').1
    obtain ⟨ho1, ho2⟩ := now_le.1 hok
    cases hq : pickO n (R.map trn) (R.map trn).length with
    | none => rw [hq] at hp; exact absurd ⟨ho1, ho2⟩ (hp j (trn s) hjl hj')
    | some i =>
      rw [hq] at hp; obtain ⟨r', h1, h2, h3, h4⟩ := hp
      obtain ⟨r, hr, rfl⟩ := ht h1
      have h5 := h4 j (trn s) hjl hj' ho1 ho2
      have hrL : itR r ∈ t.toL := (hm _).2 ⟨r, List.mem_of_getElem? hr, rfl⟩
      have h7 := rs_le h.srt hr hj
      have h8 : r.ri = s.ri := by
        rw [hL] at hrL
        rcases List.mem_append.1 hrL with g | g
        · have := hA _ g; simp at this; exact absurd (now_le.2 ⟨h2, h3⟩) (by have h9 : (itR r).va = (trn r).ra := rfl; omega)
        · rcases List.mem_cons.1 g with g | g
          · exact congrArg It.ki g
          · have h9 := hB _ g; unfold kl lessK at h9; simp only [itR, trn] at h9 h5; omega
      refine ⟨?_, ?_⟩
      · simp only [Option.getD_some, itR, mkI, h1, trn]; exact h8.symm
      · simp [oI]
theorem nxR_spec (l : List Rw) : ∀ k, nxR l k ≤ wnever ∧ (∀ (j : Nat) r, j < k → l[j]? = some r → nxR l k ≤ r.ra) ∧ (nxR l k = wnever ∨ ∃ r ∈ l, nxR l k = r.ra)
  | 0 => ⟨Int.le_refl _, fun j r hj => by omega, .inl rfl⟩
  | k + 1 => by
    obtain ⟨h1, h2, h3⟩ := nxR_spec l k
    cases hr : l[k]? with
    | none =>
      have e : nxR l (k + 1) = nxR l k := by rw [nxR, hr]
      rw [e]; refine ⟨h1, fun j r hj hj2 => ?_, h3⟩
      rcases Nat.lt_or_ge j k with g | g
      · exact h2 j r g hj2
      · have : j = k := by omega
        subst this; rw [hr] at hj2; cases hj2
    | some x =>
      have e : nxR l (k + 1) = if x.ra < nxR l k then x.ra else nxR l k := by rw [nxR, hr]
      rw [e]; split
      · refine ⟨by omega, fun j r hj hj2 => ?_, .inr ⟨x, List.mem_of_getElem? hr, rfl⟩⟩
        rcases Nat.lt_or_ge j k with g | g
        · have := h2 j r g hj2; omega
        · have : j = k := by omega
          subst this; rw [hr] at hj2; cases hj2; omega
      · refine ⟨h1, fun j r hj hj2 => ?_, h3⟩
        rcases Nat.lt_or_ge j k with g | g
        · exact h2 j r g hj2
        · have : j = k := by omega
          subst this; rw [hr] at hj2; cases hj2; omega
theorem head_least {t : T} {kv : List (Int × It)} (hE : ERel t kv) {y : It} {L : List It} (hL : t.toL = y :: L) : ∀ z ∈ t.toL, y.ka ≤ z.ka := by
  intro z hz; have hS := hE.wf.srt; rw [hL] at hz hS
  rcases List.mem_cons.1 hz with rfl | hz
  · exact Int.le_refl _
  · have := (List.pairwise_cons.1 hS).1 z hz; unfold kl lessK at this; omega
theorem empty_R {t : T} {kv : List (Int × It)} {R : List Rw} (hE : ERel t kv) (h : KRel kv R) : t.toL = [] ↔ R = [] := by
  have h1 := hE.len; have h2 := krel_len hE.nd h
  rw [← List.length_eq_zero_iff, ← List.length_eq_zero_iff]; omega
theorem next_el {t : T} {kv : List (Int × It)} {R : List Rw} (hE : ERel t kv) (h : KRel kv R) : nextV t.toL = nxR R R.length := by
  have hm := toL_mem hE h
  obtain ⟨h1, h2, h3⟩ := nxR_spec R R.length
  unfold nextV
  cases hL : t.toL with
  | nil => have := (empty_R hE h).1 hL; subst this; rfl
  | cons y L =>
    have hh := head_least hE hL
    simp only [List.cons_ne_nil, if_false, List.head?_cons, Option.getD_some]
    have hy : y ∈ t.toL := by rw [hL]; simp
    obtain ⟨r, hr, rfl⟩ := (hm y).1 hy
    obtain ⟨j, hj⟩ := List.mem_iff_getElem?.1 hr
    have h4 := h2 j r (List.getElem?_eq_some_iff.1 hj).1 hj
    have h5 : (itR r).ka = r.ra := rfl
    rw [imin_eq, h5]
    have h6 : never = wnever := rfl
    rw [h6]
    rcases h3 with e | ⟨s, hs, e⟩
    · omega
    · have := hh (itR s) ((hm _).2 ⟨s, hs, rfl⟩); have h7 : (itR s).ka = s.ra := rfl
      rw [h5, h7] at this; omega
theorem fit_vt {t : T} {kv : List (Int × It)} {R : List Rw} (hE : ERel t kv) (h : KRel kv R) : fitV t.toL = nxR (R.map trn) (R.map trn).length := by
  have hm := toL_mem hE h
  obtain ⟨h1, h2, h3⟩ := nxR_spec (R.map trn) (R.map trn).length
  unfold fitV
  by_cases hL : t.toL = []
  · rw [if_pos hL]; have := (empty_R hE h).1 hL; subst this; rfl
  · rw [if_neg hL]
    rcases belowL_spec 18446744073709551615 t.toL with ⟨_, hn⟩ | ⟨m, e, hmm, hka, hmin⟩
    · exfalso; cases hL2 : t.toL with
      | nil => exact hL hL2
      | cons y L =>
        have hy : y ∈ t.toL := by rw [hL2]; simp
        obtain ⟨r, hr, rfl⟩ := (hm y).1 hy
        have := (h.rng r hr).2.1; exact hn _ hy (by show r.ra ≤ _; omega)
    · rw [e]; simp only [Option.getD_some]
      obtain ⟨r, hr, rfl⟩ := (hm m).1 hmm
      obtain ⟨j, hj⟩ := List.mem_iff_getElem?.1 hr
      have hj' : (R.map trn)[j]? = some (trn r) := by rw [List.getElem?_map, hj]; rfl
      have h4 := h2 j (trn r) (List.getElem?_eq_some_iff.1 hj').1 hj'
      have h5 : (itR r).va = r.rb := rfl
      have h5' : (trn r).ra = r.rb := rfl
      rw [imin_eq, h5]
      have h6 : never = wnever := rfl
      rw [h6]
      rcases h3 with e | ⟨s', hs', e⟩
      · omega
      · obtain ⟨s, hs, rfl⟩ := List.mem_map.1 hs'
        have h8 := hmin (itR s) ((hm _).2 ⟨s, hs, rfl⟩) (by have := (h.rng s hs).2.1; show s.ra ≤ _; omega)
        unfold lessK at h8; have h7 : (itR s).va = s.rb := rfl; have h9 : (trn s).ra = s.rb := rfl
        rw [h5, h7] at h8; omega
theorem lowR_spec (l : List Rw) : ∀ k, k ≤ l.length → 0 < k → (∀ (j : Nat) r, j < k → l[j]? = some r → lowR l k ≤ r.ra) ∧ ∃ r ∈ l, lowR l k = r.ra
  | 0, _, h => by omega
  | k + 1, hk, _ => by
    have hr : l[k]? = some (l[k]'(by omega)) := List.getElem?_eq_getElem (by omega)
    generalize l[k]'(by omega) = x at hr
    have e : lowR l (k + 1) = if k = 0 ∨ x.ra < lowR l k then x.ra else lowR l k := by rw [lowR, hr]
    rw [e]; split
    · rename_i hc
      refine ⟨fun j r hj hj2 => ?_, x, List.mem_of_getElem? hr, rfl⟩
      rcases Nat.lt_or_ge j k with g | g
      · have := (lowR_spec l k (by omega) (by omega)).1 j r g hj2; omega
      · have : j = k := by omega
        subst this; rw [hr] at hj2; cases hj2; exact Int.le_refl _
    · rename_i hc
      obtain ⟨h1, h2⟩ := lowR_spec l k (by omega) (by omega)
      refine ⟨fun j r hj hj2 => ?_, h2⟩
      rcases Nat.lt_or_ge j k with g | g
      · exact h1 j r g hj2
      · have : j = k := by omega
        subst this; rw [hr] at hj2; cases hj2; omega
theorem low_vt {t : T} {kv : List (Int × It)} {R : List Rw} (hE : ERel t kv) (h : KRel kv R) : (t.toL.head?.getD default).ka = lowR R R.length ∧ t.toL.head?.isSome = decide ((R.length : Int) > 0) := by
  have hm := toL_mem hE h
  cases hL : t.toL with
  | nil => have := (empty_R hE h).1 hL; subst this; exact ⟨rfl, rfl⟩
  | cons y L =>
    have hh := head_least hE hL
    have hy : y ∈ t.toL := by rw [hL]; simp
    obtain ⟨r, hr, rfl⟩ := (hm y).1 hy
    obtain ⟨j, hj⟩ := List.mem_iff_getElem?.1 hr
    have hjl := (List.getElem?_eq_some_iff.1 hj).1
    obtain ⟨h2, s, hs, e⟩ := lowR_spec R R.length (Nat.le_refl _) (by omega)
    have h4 := h2 j r hjl hj
    have h5 := hh (itR s) ((hm _).2 ⟨s, hs, rfl⟩)
    have h6 : (itR r).ka = r.ra := rfl
    have h7 : (itR s).ka = s.ra := rfl
    rw [h6, h7] at h5
    refine ⟨by simp only [List.head?_cons, Option.getD_some]; omega, by simp; omega⟩

end Go.Proofs.Ytdhcglflmkjneaa
