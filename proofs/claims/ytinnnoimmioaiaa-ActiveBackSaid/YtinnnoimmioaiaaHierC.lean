/- What the functions of this layer do, proved operation by operation, for all arguments, under the conditions that each theorem states. -/
import Derived.Test.YtinnnoimmioaiaaProg
import Derived.Test.YtinnnoimmioaiaaHierB
namespace Go.Proofs.Ytinnnoimmioaiaa
open Go V
set_option linter.unusedVariables false
set_option linter.unusedSimpArgs false
def ClOk (x : Cl) : Prop := ((-9223372036854775808) ≤ x.hi ∧ x.hi ≤ 9223372036854775807) ∧ ((-9223372036854775808) ≤ x.hp ∧ x.hp ≤ 9223372036854775807) ∧ True ∧ (0 ≤ x.ra ∧ x.ra ≤ 18446744073709551615) ∧ (0 ≤ x.rb ∧ x.rb ≤ 18446744073709551615) ∧ (0 ≤ x.rc ∧ x.rc ≤ 18446744073709551615) ∧ (0 ≤ x.la ∧ x.la ≤ 18446744073709551615) ∧ (0 ≤ x.lb ∧ x.lb ≤ 18446744073709551615) ∧ (0 ≤ x.lc ∧ x.lc ≤ 18446744073709551615) ∧ (0 ≤ x.ua ∧ x.ua ≤ 18446744073709551615) ∧ (0 ≤ x.ub ∧ x.ub ≤ 18446744073709551615) ∧ (0 ≤ x.uc ∧ x.uc ≤ 18446744073709551615) ∧ ((-9223372036854775808) ≤ x.hk ∧ x.hk ≤ 9223372036854775807) ∧ ((-9223372036854775808) ≤ x.hq ∧ x.hq ≤ 9223372036854775807)
def ksCl : List FK := [.int .i64, .int .i64, .bool, .int .u64, .int .u64, .int .u64, .int .u64, .int .u64, .int .u64, .int .u64, .int .u64, .int .u64, .int .i64, .int .i64]
theorem openCl (cs : List Value) (h : FitsL ksCl cs) : ∃ x, cs = encCl x ∧ ClOk x := by
  unfold ksCl at h
  obtain ⟨v0, cs0, rfl, h0, g0⟩ := fitsL_cons h
  obtain ⟨a0, rfl, r0⟩ := fit_i64 h0
  obtain ⟨v1, cs1, rfl, h1, g1⟩ := fitsL_cons g0
  obtain ⟨a1, rfl, r1⟩ := fit_i64 h1
  obtain ⟨v2, cs2, rfl, h2, g2⟩ := fitsL_cons g1
  obtain ⟨a2, rfl⟩ := fit_bool h2
  obtain ⟨v3, cs3, rfl, h3, g3⟩ := fitsL_cons g2
  obtain ⟨a3, rfl, r3⟩ := fit_u64 h3
  obtain ⟨v4, cs4, rfl, h4, g4⟩ := fitsL_cons g3
  obtain ⟨a4, rfl, r4⟩ := fit_u64 h4
  obtain ⟨v5, cs5, rfl, h5, g5⟩ := fitsL_cons g4
  obtain ⟨a5, rfl, r5⟩ := fit_u64 h5
  obtain ⟨v6, cs6, rfl, h6, g6⟩ := fitsL_cons g5
  obtain ⟨a6, rfl, r6⟩ := fit_u64 h6
  obtain ⟨v7, cs7, rfl, h7, g7⟩ := fitsL_cons g6
  obtain ⟨a7, rfl, r7⟩ := fit_u64 h7
  obtain ⟨v8, cs8, rfl, h8, g8⟩ := fitsL_cons g7
  obtain ⟨a8, rfl, r8⟩ := fit_u64 h8
  obtain ⟨v9, cs9, rfl, h9, g9⟩ := fitsL_cons g8
  obtain ⟨a9, rfl, r9⟩ := fit_u64 h9
  obtain ⟨v10, cs10, rfl, h10, g10⟩ := fitsL_cons g9
  obtain ⟨a10, rfl, r10⟩ := fit_u64 h10
  obtain ⟨v11, cs11, rfl, h11, g11⟩ := fitsL_cons g10
  obtain ⟨a11, rfl, r11⟩ := fit_u64 h11
  obtain ⟨v12, cs12, rfl, h12, g12⟩ := fitsL_cons g11
  obtain ⟨a12, rfl, r12⟩ := fit_i64 h12
  obtain ⟨v13, cs13, rfl, h13, g13⟩ := fitsL_cons g12
  obtain ⟨a13, rfl, r13⟩ := fit_i64 h13
  obtain rfl := fitsL_nil g13
  exact ⟨⟨a0, a1, a2, a3, a4, a5, a6, a7, a8, a9, a10, a11, a12, a13⟩, rfl, r0, r1, trivial, r3, r4, r5, r6, r7, r8, r9, r10, r11, r12, r13⟩
def RS (R : List Cl) : Prop := R.Pairwise (fun a b => a.hi < b.hi)
theorem rs_uniq {R : List Cl} (h : RS R) {r s : Cl} (hr : r ∈ R) (hs : s ∈ R) (e : r.hi = s.hi) : r = s := by
  obtain ⟨i, hi, rfl⟩ := List.mem_iff_getElem.1 hr
  obtain ⟨j, hj, rfl⟩ := List.mem_iff_getElem.1 hs
  rcases Nat.lt_trichotomy i j with g | g | g
  · have := List.pairwise_iff_getElem.1 h i j hi hj g; omega
  · subst g; rfl
  · have := List.pairwise_iff_getElem.1 h j i hj hi g; omega
structure SF (x : Cl) (R : List Cl) (k : Nat) : Prop where
  mem : ∀ y, y ∈ (sfo x R k).1 ↔ ((sfo x R k).2 = true ∧ y = x) ∨ (y ∈ R.take k ∧ y.hi ≠ x.hi)
  lo : (sfo x R k).2 = false → ∀ r ∈ R.take k, r.hi < x.hi
  hi : (sfo x R k).2 = true → ∃ r ∈ R.take k, x.hi ≤ r.hi
  srt : RS (sfo x R k).1
theorem rs_snoc {A : List Cl} {y : Cl} (h : RS A) (hy : ∀ a ∈ A, a.hi < y.hi) : RS (A ++ [y]) := List.pairwise_append.2 ⟨h, by simp, fun a ha b hb => by simp at hb; subst hb; exact hy a ha⟩
theorem sf_all (x : Cl) {R : List Cl} (h : RS R) : ∀ k, SF x R k
  | 0 => ⟨by simp [sfo], by simp, by simp [sfo], by simp [sfo, RS]⟩
  | k + 1 => by
    have ih := sf_all x h k
    cases hr : R[k]? with
    | none =>
      have e1 : sfo x R (k + 1) = sfo x R k := by rw [sfo, hr]
      have e2 : R.take (k + 1) = R.take k := by rw [List.take_add_one, hr]; simp
      exact ⟨by rw [e1, e2]; exact ih.mem, by rw [e1, e2]; exact ih.lo, by rw [e1, e2]; exact ih.hi, by rw [e1]; exact ih.srt⟩
    | some r =>
      have et : R.take (k + 1) = R.take k ++ [r] := take_snoc hr
      have hlt : ∀ a ∈ R.take k, a.hi < r.hi := fun a ha => by
        obtain ⟨i, hi⟩ := List.mem_iff_getElem?.1 ha
        rw [List.getElem?_take] at hi; split at hi
        · obtain ⟨h1, h2⟩ := List.getElem?_eq_some_iff.1 hi
          obtain ⟨h3, h4⟩ := List.getElem?_eq_some_iff.1 hr
          have := List.pairwise_iff_getElem.1 h i k h1 h3 (by assumption); rw [h2, h4] at this; exact this
        · cases hi
      have es := sfo_succ (x := x) hr
      have keep : ∀ a ∈ (sfo x R k).1, a = x ∨ a.hi < r.hi := fun a ha => by
        rcases (ih.mem a).1 ha with ⟨_, e⟩ | ⟨e, _⟩
        · exact .inl e
        · exact .inr (hlt a e)
      cases hp : (sfo x R k).2 with
      | true =>
        obtain ⟨q, hq, hqx⟩ := ih.hi hp
        have hxr : x.hi < r.hi := by have := hlt q hq; omega
        have hne : r.hi ≠ x.hi := by omega
        have e : sfo x R (k + 1) = ((sfo x R k).1 ++ [r], true) := by rw [es, hp]; simp [hne]
        refine ⟨fun y => ?_, ?_, ?_, ?_⟩
        · rw [e, et]; simp only [List.mem_append, List.mem_singleton, ih.mem y, hp]; constructor
          · rintro ((h1 | ⟨h1, h2⟩) | h1)
            · exact .inl h1
            · exact .inr ⟨.inl h1, h2⟩
            · exact .inr ⟨.inr h1, by rw [h1]; exact hne⟩
          · rintro (h1 | ⟨h1 | h1, h2⟩)
            · exact .inl (.inl h1)
            · exact .inl (.inr ⟨h1, h2⟩)
            · exact .inr h1
        · rw [e]; intro g; cases g
        · rw [e, et]; intro _; exact ⟨q, by simp [hq], hqx⟩
        · rw [e]; exact rs_snoc ih.srt fun a ha => by
            rcases keep a ha with rfl | g
            · exact hxr
            · exact g
      | false =>
        have hlo := ih.lo hp
        have hsub : ∀ a ∈ (sfo x R k).1, a.hi < x.hi ∧ a.hi < r.hi := fun a ha => by
          rcases (ih.mem a).1 ha with ⟨e, _⟩ | ⟨e, _⟩
          · rw [hp] at e; cases e
          · exact ⟨hlo a e, hlt a e⟩
        by_cases hge : x.hi ≤ r.hi
        · by_cases hne : r.hi = x.hi
          · have e : sfo x R (k + 1) = ((sfo x R k).1 ++ [x], true) := by rw [es, hp]; simp [hne]
            refine ⟨fun y => ?_, ?_, ?_, ?_⟩
            · rw [e, et]; simp only [List.mem_append, List.mem_singleton, ih.mem y, hp]; constructor
              · rintro ((⟨h1, _⟩ | ⟨h1, h2⟩) | h1)
                · cases h1
                · exact .inr ⟨.inl h1, h2⟩
                · exact .inl ⟨trivial, h1⟩
              · rintro (⟨_, h1⟩ | ⟨h1 | h1, h2⟩)
                · exact .inr h1
                · exact .inl (.inr ⟨h1, h2⟩)
                · exact absurd (by rw [h1]; exact hne) h2
            · rw [e]; intro g; cases g
            · rw [e, et]; intro _; exact ⟨r, by simp, hge⟩
            · rw [e]; exact rs_snoc ih.srt fun a ha => (hsub a ha).1
          · have e : sfo x R (k + 1) = (((sfo x R k).1 ++ [x]) ++ [r], true) := by rw [es, hp]; simp [hne, hge]
            refine ⟨fun y => ?_, ?_, ?_, ?_⟩
            · rw [e, et]; simp only [List.mem_append, List.mem_singleton, ih.mem y, hp]; constructor
              · rintro (((⟨h1, _⟩ | ⟨h1, h2⟩) | h1) | h1)
                · cases h1
                · exact .inr ⟨.inl h1, h2⟩
                · exact .inl ⟨trivial, h1⟩
                · exact .inr ⟨.inr h1, by rw [h1]; exact hne⟩
              · rintro (⟨_, h1⟩ | ⟨h1 | h1, h2⟩)
                · exact .inl (.inr h1)
                · exact .inl (.inl (.inr ⟨h1, h2⟩))
                · exact .inr h1
            · rw [e]; intro g; cases g
            · rw [e, et]; intro _; exact ⟨r, by simp, hge⟩
            · rw [e]; refine rs_snoc (rs_snoc ih.srt fun a ha => (hsub a ha).1) fun a ha => ?_
              rcases List.mem_append.1 ha with ha | ha
              · exact (hsub a ha).2
              · simp at ha; subst ha; omega
        · have hne : r.hi ≠ x.hi := by omega
          have e : sfo x R (k + 1) = ((sfo x R k).1 ++ [r], false) := by rw [es, hp]; simp [hne, hge]
          refine ⟨fun y => ?_, ?_, ?_, ?_⟩
          · rw [e, et]; simp only [List.mem_append, List.mem_singleton, ih.mem y, hp]; constructor
            · rintro ((⟨h1, _⟩ | ⟨h1, h2⟩) | h1)
              · cases h1
              · exact .inr ⟨.inl h1, h2⟩
              · exact .inr ⟨.inr h1, by rw [h1]; exact hne⟩
            · rintro (⟨h1, _⟩ | ⟨h1 | h1, h2⟩)
              · cases h1
              · exact .inl (.inr ⟨h1, h2⟩)
              · exact .inr h1
          · rw [e, et]; intro _ a ha
            rcases List.mem_append.1 ha with ha | ha
            · exact hlo a ha
            · simp at ha; subst ha; omega
          · rw [e]; intro g; cases g
          · rw [e]; exact rs_snoc ih.srt fun a ha => (hsub a ha).2
theorem setL_mem {x : Cl} {R : List Cl} (h : RS R) (y : Cl) : y ∈ setL x R ↔ y = x ∨ (y ∈ R ∧ y.hi ≠ x.hi) := by
  have s := (sf_all x h R.length).mem y
  rw [List.take_length] at s
  unfold setL; split
  · rename_i hp; rw [s, hp]; simp
  · rename_i hp; rw [List.mem_append, s]; simp [hp]; exact or_comm
theorem setL_srt {x : Cl} {R : List Cl} (h : RS R) : RS (setL x R) := by
  have s := sf_all x h R.length
  unfold setL; split
  · exact s.srt
  · rename_i hp; refine rs_snoc s.srt fun a ha => ?_
    rcases (s.mem a).1 ha with ⟨e, _⟩ | ⟨e, _⟩
    · exact absurd e hp
    · exact s.lo (by simpa using hp) a e
structure KR (kv : List (Int × Cl)) (R : List Cl) : Prop where
  srt : RS R
  get : ∀ k y, mget kv k = some y ↔ y ∈ R ∧ y.hi = k
  nd : (kv.map (·.1)).Nodup
  rng : ∀ y ∈ R, ClOk y
theorem kr_nil : KR [] [] := ⟨by simp [RS], fun k y => by simp [mget], by simp, by simp⟩
theorem kvl_get {R : List Cl} (h : RS R) (k : Int) (y : Cl) : mget (kvl R) k = some y ↔ y ∈ R ∧ y.hi = k := by
  have hn : ((kvl R).map (·.1)).Nodup := by
    unfold kvl; rw [List.map_map]; exact List.pairwise_map.2 (h.imp fun h1 e => by simp at e; omega)
  constructor
  · intro e
    obtain ⟨z, hz, e2⟩ := List.mem_map.1 (mget_mem e); cases e2; exact ⟨hz, rfl⟩
  · rintro ⟨hy, rfl⟩; exact mget_of_mem hn (List.mem_map.2 ⟨y, hy, rfl⟩)
theorem kr_get {kv : List (Int × Cl)} {R : List Cl} (h : KR kv R) (k : Int) : mget kv k = mget (kvl R) k := by
  cases e : mget (kvl R) k with
  | some y => exact (h.get k y).2 ((kvl_get h.srt k y).1 e)
  | none =>
    cases e2 : mget kv k with
    | none => rfl
    | some y => have := (kvl_get h.srt k y).2 ((h.get k y).1 e2); rw [e] at this; cases this
theorem kr_gcl {kv : List (Int × Cl)} {R : List Cl} (h : KR kv R) (k : Int) : gcl kv k = gcl (kvl R) k := by unfold gcl; rw [kr_get h]
theorem kr_depN {kv : List (Int × Cl)} {R : List Cl} (h : KR kv R) : ∀ n k, depN kv n k = depN (kvl R) n k
  | 0, _ => rfl
  | n + 1, k => by unfold depN; rw [kr_get h, kr_gcl h, kr_depN h n]
theorem kr_upA {kv : List (Int × Cl)} {R : List Cl} (h : KR kv R) (k : Int) : ∀ j, upA kv k j = upA (kvl R) k j
  | 0 => rfl
  | j + 1 => by simp only [upA]; rw [kr_upA h k j, kr_gcl h]
theorem kr_upL {kv : List (Int × Cl)} {R : List Cl} (h : KR kv R) (k : Int) (d : Nat) : upL kv k d = upL (kvl R) k d := by
  unfold upL; exact List.map_congr_left fun j _ => kr_upA h k j
theorem depN_stop (kv : List (Int × Cl)) (m : Nat) : ∀ (n : Nat) (k : Int), depN kv n k < n → depN kv (n + m) k = depN kv n k
  | 0, k, h => by omega
  | n + 1, k, h => by
    rw [show n + 1 + m = (n + m) + 1 by omega]
    unfold depN at h ⊢
    split
    · rename_i hs; rw [if_pos hs] at h; rw [depN_stop kv m n _ (by omega)]
    · rfl
theorem kr_upD {kv : List (Int × Cl)} {R : List Cl} (h : KR kv R) (hO : HOk kv) (k : Int) : upD R k = dep kv k := by
  unfold upD dep; rw [← kr_depN h]
  exact depN_stop kv 53 17 k (by have := hO k; unfold dep at this; omega)
theorem kr_at {kv : List (Int × Cl)} {R : List Cl} (h : KR kv R) {y : Cl} (hy : y ∈ R) : mget kv y.hi = some y := (h.get _ _).2 ⟨hy, rfl⟩
theorem sortI_sorted {l : List Int} (h : l.Pairwise (· < ·)) : sortI l = l := by
  have tr : ∀ a b c : Int, decide (a ≤ b) = true → decide (b ≤ c) = true → decide (a ≤ c) = true := fun a b c h1 h2 => by simp only [decide_eq_true_eq] at *; omega
  have to : ∀ a b : Int, (decide (a ≤ b) || decide (b ≤ a)) = true := fun a b => by simp only [Bool.or_eq_true, decide_eq_true_eq]; omega
  unfold sortI
  refine List.Perm.eq_of_pairwise (le := fun a b : Int => decide (a ≤ b) = true) (fun a b _ _ h1 h2 => ?_) (List.pairwise_mergeSort tr to _) (h.imp fun h1 => by simp; omega) (List.mergeSort_perm _ _)
  simp only [decide_eq_true_eq] at h1 h2; omega
theorem kr_keys {kv : List (Int × Cl)} {R : List Cl} (h : KR kv R) (f : Cl → Bool) : keysF kv f = (R.filter f).map (·.hi) := by
  have hs : ((R.filter f).map (·.hi)).Pairwise (· < ·) := List.pairwise_map.2 (h.srt.filter f)
  unfold keysF; rw [← sortI_sorted hs]; refine sortI_perm ?_
  refine (List.perm_ext_iff_of_nodup ((h.nd).sublist (List.Sublist.map _ List.filter_sublist)) (hs.imp fun h1 e => by omega)).2 fun k => ?_
  rw [List.mem_map, List.mem_map]; constructor
  · rintro ⟨p, hp, rfl⟩
    obtain ⟨h1, h2⟩ := List.mem_filter.1 hp
    obtain ⟨h3, h4⟩ := (h.get p.1 p.2).1 (mget_of_mem h.nd h1)
    exact ⟨p.2, List.mem_filter.2 ⟨h3, h2⟩, h4⟩
  · rintro ⟨r, hr, rfl⟩
    obtain ⟨h1, h2⟩ := List.mem_filter.1 hr
    exact ⟨_, List.mem_filter.2 ⟨mget_mem (kr_at h h1), h2⟩, rfl⟩
theorem kr_perm {kv : List (Int × Cl)} {R : List Cl} (h : KR kv R) : (kv.map (·.1)).Perm (R.map (·.hi)) := by
  have hs : (R.map (·.hi)).Nodup := List.pairwise_map.2 (h.srt.imp fun h1 e => by omega)
  refine (List.perm_ext_iff_of_nodup h.nd hs).2 fun k => ?_
  rw [List.mem_map, List.mem_map]; constructor
  · rintro ⟨p, hp, rfl⟩
    obtain ⟨h3, h4⟩ := (h.get p.1 p.2).1 (mget_of_mem h.nd hp); exact ⟨p.2, h3, h4⟩
  · rintro ⟨r, hr, rfl⟩; exact ⟨_, mget_mem (kr_at h hr), rfl⟩
theorem kr_len {kv : List (Int × Cl)} {R : List Cl} (h : KR kv R) : kv.length = R.length := by simpa using (kr_perm h).length_eq
theorem cl_nn {y : Cl} (h : ClOk y) : (0 ≤ y.ra ∧ 0 ≤ y.rb ∧ 0 ≤ y.rc) ∧ (0 ≤ y.la ∧ 0 ≤ y.lb ∧ 0 ≤ y.lc) ∧ 0 ≤ y.ua ∧ 0 ≤ y.ub ∧ 0 ≤ y.uc := by
  unfold ClOk at h; omega
theorem wrong_eq {y : Cl} (h : ClOk y) : wrongC y = wrongR y := by
  obtain ⟨⟨h1, h2, h3⟩, ⟨h4, h5, h6⟩, h7, h8, h9⟩ := cl_nn h
  unfold wrongC wrongR; rw [ofC_ofR h1 h2 h3, ofC_ofR h4 h5 h6, ofC_ofR h7 h8 h9]
theorem ls_eq {y : Cl} (h : ClOk y) : ofC y.la y.lb y.lc = ofR y.la y.lb y.lc := ofC_ofR (cl_nn h).2.1.1 (cl_nn h).2.1.2.1 (cl_nn h).2.1.2.2
theorem rt_eq {y : Cl} (h : ClOk y) : ofC y.ra y.rb y.rc = ofR y.ra y.rb y.rc := ofC_ofR (cl_nn h).1.1 (cl_nn h).1.2.1 (cl_nn h).1.2.2
theorem cl0_ok : ClOk cl0 := by unfold ClOk cl0; decide
theorem kr_gok {kv : List (Int × Cl)} {R : List Cl} (h : KR kv R) (k : Int) : ClOk (gcl kv k) := by
  unfold gcl; cases e : mget kv k with
  | none => exact cl0_ok
  | some y => exact h.rng y ((h.get k y).1 e).1
theorem kr_shares {kv : List (Int × Cl)} {R : List Cl} (h : KR kv R) (k : Int) : sharesH kv k = shR R k := by
  unfold sharesH shR; rw [ls_eq (kr_gok h k), kr_gcl h]
theorem kr_reals {kv : List (Int × Cl)} {R : List Cl} (h : KR kv R) : realsL kv = rlR R := by
  unfold realsL rlR; rw [kr_keys h, List.map_map]
  have e : (R.filter fun v_ => decide ((ofC v_.ra v_.rb v_.rc) > 1)) = R.filter fun v_ => decide ((ofR v_.ra v_.rb v_.rc) > 1) := List.filter_congr fun y hy => by rw [rt_eq (h.rng y hy)]
  rw [e]; refine List.map_congr_left fun y hy => ?_
  show rtOf ((mget kv y.hi).getD cl0) = rtOf y
  rw [kr_at h (List.mem_filter.1 hy).1]; rfl
theorem kr_ch {kv : List (Int × Cl)} {R : List Cl} (h : KR kv R) (a : Int) : keysF kv (fun v_ => v_.hp == a) = chR R a := by
  rw [kr_keys h]; unfold chR; congr 1
theorem kr_put {kv : List (Int × Cl)} {R : List Cl} (h : KR kv R) {x : Cl} (hx : ClOk x) : KR (mput kv x.hi x) (setL x R) := by
  refine ⟨setL_srt h.srt, fun k y => ?_, mput_nodup h.nd _ _, fun r hr => ?_⟩
  · rw [mget_put]; by_cases e : x.hi = k
    · rw [if_pos e]; subst e; constructor
      · intro g; cases g; exact ⟨(setL_mem h.srt x).2 (.inl rfl), rfl⟩
      · rintro ⟨hr, e1⟩
        rcases (setL_mem h.srt y).1 hr with rfl | ⟨_, g⟩
        · rfl
        · exact absurd e1 g
    · rw [if_neg e, h.get]; constructor
      · rintro ⟨hr, e1⟩; exact ⟨(setL_mem h.srt y).2 (.inr ⟨hr, fun g => e (by rw [← g, e1])⟩), e1⟩
      · rintro ⟨hr, e1⟩
        rcases (setL_mem h.srt y).1 hr with rfl | ⟨g, _⟩
        · exact absurd e1 e
        · exact ⟨g, e1⟩
  · rcases (setL_mem h.srt r).1 hr with rfl | ⟨g, _⟩
    · exact hx
    · exact h.rng r g
theorem kr_del {kv : List (Int × Cl)} {R : List Cl} (h : KR kv R) (a : Int) : KR (mdel kv a) (wo a R) := by
  refine ⟨List.Pairwise.filter _ h.srt, fun k y => ?_, mdel_nodup h.nd a, fun r hr => h.rng r (List.mem_filter.1 hr).1⟩
  rw [mget_mdel h.nd]
  by_cases e : a = k
  · rw [if_pos e]; subst e; constructor
    · intro g; cases g
    · rintro ⟨hr, e1⟩; have := (List.mem_filter.1 hr).2; simp [e1] at this
  · rw [if_neg e, h.get]; constructor
    · rintro ⟨hr, e1⟩; exact ⟨List.mem_filter.2 ⟨hr, by simp [e1]; exact fun g => e g.symm⟩, e1⟩
    · rintro ⟨hr, e1⟩; exact ⟨(List.mem_filter.1 hr).1, e1⟩
/-- every class is laid right -/
structure Laid (kv : List (Int × Cl)) : Prop where
  nd : (kv.map (·.1)).Nodup
  key : ∀ k y, mget kv k = some y → y.hi = k ∧ wrongC y = 0
  par : ∀ k y, mget kv k = some y → y.hp = 0 ∨ ∃ p, mget kv y.hp = some p ∧ p.hl = false
  shr : ∀ k y, mget kv k = some y → (ofC y.la y.lb y.lc) > 1 → sharesH kv y.hp = true
  dep : HOk kv
  len : kv.length ≤ 64
theorem laid_nil : Laid [] := ⟨by simp, fun k y h => by simp [mget] at h, fun k y h => by simp [mget] at h, fun k y h => by simp [mget] at h, two_0, by simp⟩
theorem wrong_id {y : Cl} (h : wrongC y = 0) : 1 ≤ y.hi ∧ 0 ≤ y.hp ∧ y.hi ≠ y.hp := by
  unfold wrongC at h; split at h
  · omega
  · omega
theorem laid_0 {kv : List (Int × Cl)} (h : Laid kv) : mget kv 0 = none := by
  cases e : mget kv 0 with
  | none => rfl
  | some y => obtain ⟨h1, h2⟩ := h.key 0 y e; have := wrong_id h2; omega
theorem gcl_of {kv : List (Int × Cl)} {k : Int} {y : Cl} (h : mget kv k = some y) : gcl kv k = y := by unfold gcl; rw [h]; rfl
theorem gcl_no {kv : List (Int × Cl)} {k : Int} (h : mget kv k = none) : gcl kv k = cl0 := by unfold gcl; rw [h]; rfl
theorem depN_mono (kv : List (Int × Cl)) : ∀ (n : Nat) (k : Int), depN kv n k ≤ depN kv (n + 1) k
  | 0, k => by simp [depN]
  | n + 1, k => by
    rw [depN, depN]; split
    · have := depN_mono kv n (gcl kv k).hp; omega
    · exact Nat.le_refl _
theorem addE_0 {kv : List (Int × Cl)} {y : Cl} (h : addE kv y = 0) : wrongC y = 0 ∧ mget kv y.hi = none ∧ (kv.length : Int) ≠ 64 ∧ (y.hp = 0 ∨ mget kv y.hp ≠ none) ∧ (gcl kv y.hp).hl = false ∧ ((ofC y.la y.lb y.lc) > 1 → sharesH kv y.hp = true) ∧ (dep kv y.hp : Int) ≠ 16 := by
  unfold addE at h
  repeat' split at h
  all_goals first | omega | skip
  rename_i h1 h2 h3 h4 h5 h6
  refine ⟨by omega, ?_, h3, ?_, ?_, ?_, h6⟩
  · cases e : mget kv y.hi with
    | none => rfl
    | some z => rw [e] at h2; simp at h2
  · by_cases e : y.hp = 0
    · exact .inl e
    · right; intro e2; apply h4; left; exact ⟨e, by rw [e2]; rfl⟩
  · cases e : (gcl kv y.hp).hl with
    | false => rfl
    | true => exact absurd (.inr e) h4
  · intro g; cases e : sharesH kv y.hp with
    | true => rfl
    | false => exact absurd ⟨g, e⟩ h5
/-- a class above is there, or the root -/
theorem laid_up {kv : List (Int × Cl)} (h : Laid kv) {k : Int} (hk : k = 0 ∨ mget kv k ≠ none) : (gcl kv k).hp = 0 ∨ mget kv (gcl kv k).hp ≠ none := by
  cases e : mget kv k with
  | none => rw [gcl_no e]; exact .inl rfl
  | some y => rw [gcl_of e]; rcases h.par k y e with g | ⟨p, g, _⟩
              · exact .inl g
              · right; rw [g]; simp
theorem depN_add {kv : List (Int × Cl)} (h : Laid kv) {y : Cl} (hn : mget kv y.hi = none) (h0 : y.hi ≠ 0) : ∀ (n : Nat) (k : Int), (k = 0 ∨ mget kv k ≠ none) → depN (mput kv y.hi y) n k = depN kv n k
  | 0, _, _ => rfl
  | n + 1, k, hk => by
    have hne : ¬ y.hi = k := by
      rcases hk with rfl | hk
      · exact h0
      · rintro rfl; exact hk hn
    have eg : mget (mput kv y.hi y) k = mget kv k := by rw [mget_put, if_neg hne]
    rw [depN, depN, eg, show gcl (mput kv y.hi y) k = gcl kv k by unfold gcl; rw [eg], depN_add h hn h0 n _ (laid_up h hk)]
theorem sharesH_put {kv : List (Int × Cl)} {y : Cl} {k : Int} (hne : ¬ y.hi = k) : sharesH (mput kv y.hi y) k = sharesH kv k := by
  unfold sharesH gcl; rw [mget_put, if_neg hne]
theorem laid_add {kv : List (Int × Cl)} (h : Laid kv) {y : Cl} (hE : addE kv y = 0) : Laid (mput kv y.hi y) := by
  obtain ⟨h1, h2, h3, h4, h5, h6, h7⟩ := addE_0 hE
  obtain ⟨w1, w2, w3⟩ := wrong_id h1
  have old : ∀ k z, mget kv k = some z → ¬ y.hi = z.hp := fun k z hz e => by
    rcases h.par k z hz with g | ⟨p, g, _⟩
    · omega
    · rw [← e, h2] at g; cases g
  refine ⟨mput_nodup h.nd _ _, fun k z hz => ?_, fun k z hz => ?_, fun k z hz hs => ?_, fun k => ?_, ?_⟩
  · rw [mget_put] at hz; split at hz
    · cases hz; exact ⟨by assumption, h1⟩
    · exact h.key k z hz
  · rw [mget_put] at hz; split at hz
    · cases hz
      rcases h4 with g | g
      · exact .inl g
      · right; cases e : mget kv y.hp with
        | none => exact absurd e g
        | some p => exact ⟨p, by rw [mget_put, if_neg w3]; exact e, by rw [← gcl_of e]; exact h5⟩
    · rcases h.par k z hz with g | ⟨p, g, g2⟩
      · exact .inl g
      · exact .inr ⟨p, by rw [mget_put, if_neg (old k z hz)]; exact g, g2⟩
  · rw [mget_put] at hz; split at hz
    · cases hz; rw [sharesH_put w3]; exact h6 hs
    · rw [sharesH_put (old k z hz)]; exact h.shr k z hz hs
  · unfold dep
    by_cases e : y.hi = k
    · subst e
      have eg : mget (mput kv y.hi y) y.hi = some y := by rw [mget_put, if_pos rfl]
      rw [depN, eg, gcl_of eg, depN_add h h2 (by omega) 16 _ h4]
      have q1 : depN kv 16 y.hp ≤ depN kv 17 y.hp := depN_mono kv 16 y.hp
      have q2 := h.dep y.hp
      unfold dep at *
      simp only [Option.isSome_some, if_true]
      omega
    · cases hm : mget kv k with
      | none =>
        rw [depN, mget_put, if_neg e, hm]; simp
      | some z => rw [depN_add h h2 (by omega) 17 k (.inr (by rw [hm]; simp))]; exact h.dep k
  · rw [mput_len_new _ h2]; have := h.len; omega
theorem depN_same {kv kv' : List (Int × Cl)} (h1 : ∀ k, (mget kv' k).isSome = (mget kv k).isSome) (h2 : ∀ k, (gcl kv' k).hp = (gcl kv k).hp) : ∀ (n : Nat) (k : Int), depN kv' n k = depN kv n k
  | 0, _ => rfl
  | n + 1, k => by rw [depN, depN, h1, h2, depN_same h1 h2 n]
theorem setE_0 {kv : List (Int × Cl)} {y : Cl} (h : setE kv y = 0) : wrongC y = 0 ∧ mget kv y.hi ≠ none ∧ y.hp = (gcl kv y.hi).hp ∧ y.hl = (gcl kv y.hi).hl ∧ ((ofC y.la y.lb y.lc) > 1 → sharesH kv y.hp = true) ∧ ((ofC y.la y.lb y.lc) ≤ 1 → (keysF kv (fun v_ => v_.hp == y.hi)).any (shI kv) = false) := by
  unfold setE at h
  repeat' split at h
  all_goals first | omega | skip
  rename_i h1 h2 h3 h4
  refine ⟨by omega, ?_, ?_, ?_, ?_, ?_⟩
  · intro e; apply h2; rw [e]; rfl
  · exact Classical.byContradiction fun g => h3 (.inl g)
  · exact Classical.byContradiction fun g => h3 (.inr g)
  · intro g; cases e : sharesH kv y.hp with
    | true => rfl
    | false => exact absurd (.inl ⟨g, e⟩) h4
  · intro g; cases e : (keysF kv (fun v_ => v_.hp == y.hi)).any (shI kv) with
    | false => rfl
    | true => exact absurd (.inr ⟨g, e⟩) h4
theorem mem_keysF {kv : List (Int × Cl)} {f : Cl → Bool} {k : Int} {v : Cl} (h : mget kv k = some v) (hf : f v = true) : k ∈ keysF kv f := by
  unfold keysF sortI; rw [(List.mergeSort_perm _ _).mem_iff, List.mem_map]
  exact ⟨(k, v), List.mem_filter.2 ⟨mget_mem h, hf⟩, rfl⟩
theorem laid_set {kv : List (Int × Cl)} (h : Laid kv) {y : Cl} (hE : setE kv y = 0) : Laid (mput kv y.hi y) := by
  obtain ⟨h1, h2, h3, h4, h5, h6⟩ := setE_0 hE
  obtain ⟨w1, w2, w3⟩ := wrong_id h1
  obtain ⟨x, hx⟩ : ∃ x, mget kv y.hi = some x := by
    cases e : mget kv y.hi with
    | none => exact absurd e h2
    | some x => exact ⟨x, rfl⟩
  rw [gcl_of hx] at h3 h4
  have hsh : ∀ z : Cl, z.hp = y.hi → ∀ k, mget kv k = some z → (ofC z.la z.lb z.lc) > 1 → (ofC y.la y.lb y.lc) > 1 := fun z e k hz hs => by
    rcases Classical.em ((ofC y.la y.lb y.lc) > 1) with g | g
    · exact g
    · have := List.any_eq_false.1 (h6 (by omega)) k (mem_keysF hz (by simp [e]))
      unfold shI at this; rw [hz] at this; simp at this; omega
  refine ⟨mput_nodup h.nd _ _, fun k z hz => ?_, fun k z hz => ?_, fun k z hz hs => ?_, fun k => ?_, ?_⟩
  · rw [mget_put] at hz; split at hz
    · cases hz; exact ⟨by assumption, h1⟩
    · exact h.key k z hz
  · have par : z.hp = 0 ∨ ∃ p, mget kv z.hp = some p ∧ p.hl = false := by
      rw [mget_put] at hz; split at hz
      · cases hz; rw [h3]; exact h.par _ _ hx
      · exact h.par k z hz
    rcases par with g | ⟨p, g, g2⟩
    · exact .inl g
    · right; by_cases e : y.hi = z.hp
      · refine ⟨y, by rw [mget_put, if_pos e], ?_⟩
        rw [← e, hx] at g; cases g; rw [h4]; exact g2
      · exact ⟨p, by rw [mget_put, if_neg e]; exact g, g2⟩
  · rw [mget_put] at hz; split at hz
    · cases hz; rw [sharesH_put w3]; exact h5 hs
    · by_cases e : y.hi = z.hp
      · unfold sharesH gcl; rw [mget_put, if_pos e]
        have := hsh z e.symm k hz hs
        simp; right; omega
      · rw [sharesH_put e]; exact h.shr k z hz hs
  · unfold dep; rw [depN_same (kv := kv) (fun q => ?_) (fun q => ?_)]
    · exact h.dep k
    · rw [mget_put]; split
      · rename_i e; subst e; rw [hx]; rfl
      · rfl
    · unfold gcl; rw [mget_put]; split
      · rename_i e; subst e; rw [hx]; exact h3
      · rfl
  · rw [mput_len_old _ h2]; exact h.len
theorem delE_0 {kv : List (Int × Cl)} {a : Int} (h : delE kv a = 0) : mget kv a ≠ none ∧ ∀ k z, mget kv k = some z → z.hp ≠ a := by
  unfold delE at h
  repeat' split at h
  all_goals first | omega | skip
  rename_i h1 h2
  refine ⟨fun e => h1 (by rw [e]; rfl), fun k z hz e => ?_⟩
  have : k ∈ keysF kv (fun v_ => v_.hp == a) := mem_keysF hz (by simp [e])
  have := List.length_pos_of_mem this; omega
theorem laid_del {kv : List (Int × Cl)} (h : Laid kv) {a : Int} (hE : delE kv a = 0) : Laid (mdel kv a) := by
  obtain ⟨h1, h2⟩ := delE_0 hE
  have gt : ∀ k z, mget (mdel kv a) k = some z → mget kv k = some z := fun k z hz => by
    rw [mget_mdel h.nd] at hz; split at hz
    · cases hz
    · exact hz
  have same : ∀ k, ¬ a = k → mget (mdel kv a) k = mget kv k := fun k hk => by rw [mget_mdel h.nd, if_neg hk]
  have dn : ∀ (n : Nat) (k : Int), depN (mdel kv a) n k ≤ depN kv n k := by
    intro n; induction n with
    | zero => intro k; simp [depN]
    | succ n ih =>
      intro k; by_cases e : a = k
      · rw [depN]; rw [mget_mdel h.nd, if_pos e]; simp
      · rw [depN, depN, same k e, show gcl (mdel kv a) k = gcl kv k by unfold gcl; rw [same k e]]
        split
        · have := ih (gcl kv k).hp; omega
        · exact Nat.le_refl _
  refine ⟨mdel_nodup h.nd a, fun k z hz => h.key k z (gt k z hz), fun k z hz => ?_, fun k z hz hs => ?_, fun k => Nat.le_trans (dn 17 k) (h.dep k), ?_⟩
  · rcases h.par k z (gt k z hz) with g | ⟨p, g, g2⟩
    · exact .inl g
    · exact .inr ⟨p, by rw [same _ (Ne.symm (h2 k z (gt k z hz)))]; exact g, g2⟩
  · have := h.shr k z (gt k z hz) hs
    unfold sharesH gcl at this ⊢; rw [same _ (Ne.symm (h2 k z (gt k z hz)))]; exact this
  · have := mdel_len h1; have := h.len; omega
theorem anyI_congr {f g : Int → Bool} : ∀ {l : List Int}, (∀ i ∈ l, f i = g i) → l.any f = l.any g
  | [], _ => rfl
  | x :: l, h => by rw [List.any_cons, List.any_cons, h x (by simp), anyI_congr fun i hi => h i (by simp [hi])]
theorem shI_shR {kv : List (Int × Cl)} {R : List Cl} (h : KR kv R) {i : Int} (hi : i ≠ 0) : shI kv i = shR R i := by
  rw [← kr_shares h]; unfold shI sharesH; rw [show ((mget kv i).getD cl0) = gcl kv i from rfl]
  have : (i == 0) = false := by simpa using hi
  rw [this]; simp
theorem add_eq {kv : List (Int × Cl)} {R : List Cl} (h : KR kv R) (hL : Laid kv) {y : Cl} (hy : ClOk y) : addE kv y = addER R y := by
  unfold addE addER
  rw [wrong_eq hy, kr_shares h, ls_eq hy, kr_upD h hL.dep, ← kr_len h, ← kr_gcl h, ← kr_get h, ← kr_get h]
  have hd := hL.dep y.hp
  by_cases c1 : wrongR y ≠ 0
  · rw [if_pos c1, if_pos c1]
  rw [if_neg c1, if_neg c1]
  by_cases c2 : (mget kv y.hi).isSome = true
  · rw [if_pos c2, if_pos c2]
  rw [if_neg c2, if_neg c2]
  by_cases c3 : (kv.length : Int) = 64
  · rw [if_pos c3, if_pos c3]
  rw [if_neg c3, if_neg c3]
  have e4 : ((y.hp ≠ 0 ∧ (mget kv y.hp).isSome = false) ∨ (gcl kv y.hp).hl = true) ↔ (y.hp ≠ 0 ∧ (mget kv y.hp = none ∨ (gcl kv y.hp).hl = true)) := by
    by_cases e0 : y.hp = 0
    · rw [e0, gcl_no (laid_0 hL)]; simp [cl0]
    · simp [e0]
  simp only [e4]
  have e6 : ((dep kv y.hp : Int) = 16) ↔ ((dep kv y.hp : Int) ≥ 16) := by omega
  simp only [e6]
theorem del_eq {kv : List (Int × Cl)} {R : List Cl} (h : KR kv R) (a : Int) : delE kv a = delER R a := by
  unfold delE delER; rw [kr_ch h, ← kr_get h]; cases mget kv a <;> simp
theorem set_eq {kv : List (Int × Cl)} {R : List Cl} (h : KR kv R) (hL : Laid kv) {y : Cl} (hy : ClOk y) : setE kv y = setER R y := by
  unfold setE setER
  have ea : (chR R y.hi).any (shB R y) = (!decide ((ofR y.la y.lb y.lc) > 1) && (chR R y.hi).any (shI kv)) := by
    have e1 : (chR R y.hi).any (shB R y) = (chR R y.hi).any (fun i => !decide ((ofR y.la y.lb y.lc) > 1) && shI kv i) := by
      refine anyI_congr fun i hi => ?_
      rw [← kr_ch h] at hi
      have hi2 : i ∈ kv.map (·.1) := by
        unfold keysF sortI at hi; rw [(List.mergeSort_perm _ _).mem_iff] at hi
        obtain ⟨p, hp, rfl⟩ := List.mem_map.1 hi; exact List.mem_map_of_mem (List.mem_filter.1 hp).1
      obtain ⟨p, hp, rfl⟩ := List.mem_map.1 hi2
      obtain ⟨k1, k2⟩ := hL.key p.1 p.2 (mget_of_mem h.nd hp)
      have := wrong_id k2
      unfold shB; rw [shI_shR h (by omega)]
    rw [e1]; cases decide ((ofR y.la y.lb y.lc) > 1) <;> simp
  rw [wrong_eq hy, kr_shares h, ls_eq hy, kr_ch h, ea, ← kr_gcl h, ← kr_get h]
  by_cases c1 : wrongR y ≠ 0
  · rw [if_pos c1, if_pos c1]
  rw [if_neg c1, if_neg c1]
  cases c2 : mget kv y.hi with
  | none => simp
  | some x =>
    simp only [Option.isSome_some, reduceCtorEq, if_false]
    have e3 : (y.hp ≠ (gcl kv y.hi).hp ∨ y.hl ≠ (gcl kv y.hi).hl) ↔ ((gcl kv y.hi).hp ≠ y.hp ∨ (gcl kv y.hi).hl ≠ y.hl) := by rw [ne_comm, ne_comm (a := y.hl)]
    simp only [e3]
    by_cases c4 : (ofR y.la y.lb y.lc) > 1
    · have : ¬ (ofR y.la y.lb y.lc) ≤ 1 := by omega
      simp [c4, this]
    · have : (ofR y.la y.lb y.lc) ≤ 1 := by omega
      simp [c4, this]
theorem laid_addK {kv : List (Int × Cl)} (h : Laid kv) (y : Cl) : Laid (addK kv y) := by
  unfold addK; split
  · exact laid_add h (by assumption)
  · exact h
theorem laid_setK {kv : List (Int × Cl)} (h : Laid kv) (y : Cl) : Laid (setK kv y) := by
  unfold setK; split
  · exact laid_set h (by assumption)
  · exact h
theorem laid_delK {kv : List (Int × Cl)} (h : Laid kv) (a : Int) : Laid (delK kv a) := by
  unfold delK; split
  · exact laid_del h (by assumption)
  · exact h
theorem kr_addK {kv : List (Int × Cl)} {R : List Cl} (h : KR kv R) (hL : Laid kv) {y : Cl} (hy : ClOk y) : KR (addK kv y) (addLR R y) := by
  unfold addK addLR; rw [add_eq h hL hy]; split
  · exact kr_put h hy
  · exact h
theorem kr_setK {kv : List (Int × Cl)} {R : List Cl} (h : KR kv R) (hL : Laid kv) {y : Cl} (hy : ClOk y) : KR (setK kv y) (setLR R y) := by
  unfold setK setLR; rw [set_eq h hL hy]; split
  · exact kr_put h hy
  · exact h
theorem kr_delK {kv : List (Int × Cl)} {R : List Cl} (h : KR kv R) (a : Int) : KR (delK kv a) (delLR R a) := by
  unfold delK delLR; rw [del_eq h]; split
  · exact kr_del h a
  · exact h

end Go.Proofs.Ytinnnoimmioaiaa
