/- What the functions of this layer do, proved operation by operation, for all arguments, under the conditions that each theorem states. -/
import Derived.Test.YtlhchmmjkokamaaProg
import Derived.Test.YtlhchmmjkokamaaStat6
namespace Go.Proofs.Ytlhchmmjkokamaa
open Go V
set_option linter.unusedVariables false
set_option linter.unusedSimpArgs false
structure StR (cv : List (Int × SL)) (rv : List (Int × SR)) (w : List Pk) : Prop where
  nd : (cv.map (·.1)).Nodup
  here : ∀ c, ((mget cv c).getD sl0).sx = (hereL c w).map (·.pa)
  rows : ∀ c, SumIs (goneF c false w) ((mget rv c).getD sr0)
  keys : ∀ c, mget cv c ≠ none ↔ ∃ p ∈ w, p.pc = c
  rng : ∀ p ∈ w, I64 p.pc
  len : cv.length ≤ w.length
theorem str_nil : StR [] [] [] := ⟨by simp, fun c => by simp [mget, hereL, sl0], fun c => by simpa [goneF, mget] using sumIs_nil, fun c => by simp [mget], by simp, by simp⟩
theorem mput_le (cv : List (Int × SL)) (c : Int) (s : SL) : (mput cv c s).length ≤ cv.length + 1 := by
  cases h : mget cv c with
  | none => rw [mput_len_new s h]; exact Nat.le_refl _
  | some y => rw [mput_len_old s (by rw [h]; simp)]; omega
theorem str_came {cv zc : List (Int × SL)} {rv : List (Int × SR)} {w : List Pk} {c a : Int} (h : StR cv rv w) (hc : I64 c) (hz : CamP cv c a zc) : StR zc rv (w ++ [⟨c, a, 0, 0, false, false⟩]) := by
  obtain ⟨A, k, rfl⟩ := hz
  refine ⟨mput_nodup h.nd _ _, fun d => ?_, fun d => ?_, fun d => ?_, fun p hp => ?_, ?_⟩
  · rw [mget_put]
    unfold hereL; rw [List.filter_append, List.map_append]
    by_cases e : c = d
    · subst e; rw [if_pos rfl]; simp [h.here, hereL]
    · rw [if_neg e]; simp [e, h.here, hereL]
  · have : goneF d false (w ++ [⟨c, a, 0, 0, false, false⟩]) = goneF d false w := by unfold goneF; rw [List.filter_append]; simp
    rw [this]; exact h.rows d
  · rw [mget_put]
    by_cases e : c = d
    · subst e; rw [if_pos rfl]; simp
    · rw [if_neg e, h.keys]; constructor
      · rintro ⟨p, hp, e2⟩; exact ⟨p, by simp [hp], e2⟩
      · rintro ⟨p, hp, e2⟩; rcases List.mem_append.1 hp with hp | hp
        · exact ⟨p, hp, e2⟩
        · simp at hp; subst hp; exact absurd e2 e
  · rcases List.mem_append.1 hp with hp | hp
    · exact h.rng p hp
    · simp at hp; subst hp; exact hc
  · have h1 := mput_le cv c ⟨A, k, ((mget cv c).getD sl0).sx ++ [a]⟩; have h2 := h.len; simp; omega
theorem fst_split {c : Int} {w : List Pk} {i : Nat} (h : fst c w = some i) : ∃ x, w[i]? = some x ∧ x.pc = c ∧ x.pg = false ∧ w = w.take i ++ x :: w.drop (i + 1) ∧ hereL c (w.take i) = [] := by
  unfold fst at h
  obtain ⟨hl, h1, h2⟩ := List.findIdx?_eq_some_iff_getElem.1 h
  simp at h1
  refine ⟨w[i], List.getElem?_eq_getElem hl, h1.1, h1.2, ?_, ?_⟩
  · rw [← List.drop_eq_getElem_cons hl, List.take_append_drop]
  · unfold hereL; refine List.filter_eq_nil_iff.2 fun p hp => ?_
    obtain ⟨j, hj⟩ := List.mem_iff_getElem?.1 hp
    rw [List.getElem?_take] at hj; split at hj
    · obtain ⟨hjl, rfl⟩ := List.getElem?_eq_some_iff.1 hj
      exact h2 j (by assumption)
    · cases hj
theorem fst_here {c : Int} {w : List Pk} : fst c w = none ↔ hereL c w = [] := by
  unfold fst hereL; rw [List.findIdx?_eq_none_iff, List.filter_eq_nil_iff]
  constructor
  · intro h p hp; rw [h p hp]; simp
  · intro h p hp; simpa using h p hp
theorem here_at {c : Int} {w : List Pk} {i : Nat} {x : Pk} (hx : w[i]? = some x) (h : fst c w = some i) : hereL c w = x :: hereL c (w.drop (i + 1)) := by
  obtain ⟨y, h1, h2, h3, h4, h5⟩ := fst_split h
  rw [hx] at h1; cases h1
  conv => lhs; rw [h4]
  unfold hereL at h5 ⊢; rw [List.filter_append, h5]; simp [h2, h3]
theorem went_eq {cv : List (Int × SL)} {rv : List (Int × SR)} {w : List Pk} (h : StR cv rv w) (c dn nb : Int) : wentE cv c dn nb = wentR w c dn nb := by
  have hh := h.here c
  cases hf : fst c w with
  | none =>
    rw [wentR_none hf]; rw [fst_here.1 hf] at hh
    exact wentE_nil (by rw [hh]; rfl)
  | some i =>
    obtain ⟨x, h1, _⟩ := fst_split hf
    rw [wentR_at hf h1]; rw [here_at h1 hf] at hh
    exact wentE_at (by rw [hh]; rfl)
theorem str_went {cv : List (Int × SL)} {rv : List (Int × SR)} {w : List Pk} {c dn nb : Int} {rl : Bool} {i : Nat} (h : StR cv rv w) (hf : fst c w = some i) :
    StR (mput cv c (cutSL ((mget cv c).getD sl0))) (mput rv c (addR ((mget rv c).getD sr0) (((mget cv c).getD sl0).sx.headD 0) dn nb rl)) (goneL w i dn nb rl) := by
  obtain ⟨x, h1, h2, h3, h4, h5⟩ := fst_split hf
  have hh := h.here c
  rw [here_at h1 hf] at hh
  have hg : goneL w i dn nb rl = w.take i ++ (⟨x.pc, x.pa, dn, nb, rl, true⟩ : Pk) :: w.drop (i + 1) := by rw [← gone_eq h1]; simp
  have hk : mget cv c ≠ none := (h.keys c).2 ⟨x, List.mem_of_getElem? h1, h2⟩
  refine ⟨mput_nodup h.nd _ _, fun d => ?_, fun d => ?_, fun d => ?_, fun p hp => ?_, ?_⟩
  · rw [mget_put, hg]
    by_cases e : c = d
    · subst e; rw [if_pos rfl]
      simp only [Option.getD_some, cutSL, hh]
      unfold hereL at h5 ⊢; rw [List.filter_append, h5]; simp
    · rw [if_neg e, h.here d]
      conv => lhs; rw [h4]
      unfold hereL; rw [List.filter_append, List.filter_append]; simp [h2, e]
  · rw [mget_put, hg]
    have hw : goneF d false w = goneF d false (w.take i) ++ goneF d false (w.drop (i + 1)) := by
      conv => lhs; rw [h4]
      unfold goneF; rw [List.filter_append]; simp [h3]
    by_cases e : c = d
    · subst e; rw [if_pos rfl]
      simp only [Option.getD_some, hh, List.map_cons, List.headD_cons]
      have h6 := addR_sum (h.rows c) (⟨x.pc, x.pa, dn, nb, rl, true⟩ : Pk)
      have hp : (goneF c false w ++ [(⟨x.pc, x.pa, dn, nb, rl, true⟩ : Pk)]).Perm (goneF c false (w.take i ++ (⟨x.pc, x.pa, dn, nb, rl, true⟩ : Pk) :: w.drop (i + 1))) := by
        rw [hw]; unfold goneF; rw [List.filter_append (l₁ := w.take i)]
        simp only [List.filter_cons, h2]; simp
        exact (List.perm_append_comm (l₁ := List.filter _ (List.drop (i + 1) w))).append_left _ |>.trans (by simp)
      have h7 := sumIs_C (goneF c false (w.take i ++ (⟨x.pc, x.pa, dn, nb, rl, true⟩ : Pk) :: w.drop (i + 1)))
      rw [sumIs_uniq h6 h7 hp]; exact h7
    · rw [if_neg e]
      have : goneF d false (w.take i ++ (⟨x.pc, x.pa, dn, nb, rl, true⟩ : Pk) :: w.drop (i + 1)) = goneF d false w := by
        rw [hw]; unfold goneF; rw [List.filter_append]; simp [h2, e]
      rw [this]; exact h.rows d
  · rw [mget_put, hg]
    by_cases e : c = d
    · subst e; rw [if_pos rfl]; simp; exact ⟨_, .inr (.inl rfl), h2⟩
    · rw [if_neg e, h.keys d]
      conv => lhs; rw [h4]
      simp only [List.mem_append, List.mem_cons, h2]
      constructor
      · rintro ⟨p, hp | rfl | hp, hd⟩
        · exact ⟨p, .inl hp, hd⟩
        · exact absurd (h2.symm.trans hd) e
        · exact ⟨p, .inr (.inr hp), hd⟩
      · rintro ⟨p, hp | rfl | hp, hd⟩
        · exact ⟨p, .inl hp, hd⟩
        · exact absurd hd e
        · exact ⟨p, .inr (.inr hp), hd⟩
  · rw [hg] at hp
    have hx := h.rng x (List.mem_of_getElem? h1)
    rcases List.mem_append.1 hp with hp | hp
    · exact h.rng p (List.mem_of_mem_take hp)
    · rcases List.mem_cons.1 hp with rfl | hp
      · exact hx
      · exact h.rng p (List.mem_of_mem_drop hp)
  · rw [mput_len_old _ hk, hg]; have := h.len; have hl := (List.getElem?_eq_some_iff.1 h1).1; simp; omega
theorem row_eq {cv : List (Int × SL)} {rv : List (Int × SR)} {w : List Pk} (h : StR cv rv w) (c : Int) : (mget rv c).getD sr0 = cntR c false w w.length := by
  rw [cntR_eq]; exact sumIs_uniq (h.rows c) (sumIs_C _) (.refl _)
theorem wtR_eq (c : Int) (w : List Pk) : wtR c w w.length = ((hereL c w).length : Int) := by
  suffices h : ∀ k, k ≤ w.length → wtR c w k = ((hereL c (w.take k)).length : Int) by have := h w.length (Nat.le_refl _); rwa [List.take_length] at this
  intro k
  induction k with
  | zero => intro _; rfl
  | succ k ih =>
    intro hk
    have hx : w[k]? = some (w[k]'(by omega)) := List.getElem?_eq_getElem (by omega)
    generalize w[k]'(by omega) = x at hx
    have e : wtR c w (k + 1) = if (decide (x.pc = c) && !x.pg) = true then wtR c w k + 1 else wtR c w k := by rw [wtR, hx]
    rw [e, ih (by omega), take_snoc hx]
    unfold hereL; rw [List.filter_append]
    cases hc : (decide (x.pc = c) && !x.pg) <;> simp [hc]
theorem wait_eq {cv : List (Int × SL)} {rv : List (Int × SR)} {w : List Pk} (h : StR cv rv w) (c : Int) : (((mget cv c).getD sl0).sx.length : Int) = wtR c w w.length := by
  rw [wtR_eq, h.here]; simp

end Go.Proofs.Ytlhchmmjkokamaa
