/- What the functions of this layer do, proved operation by operation, for all arguments, under the conditions that each theorem states. -/
import Derived.Test.YtlhchmmjkokamaaProg
import Derived.Test.YtlhchmmjkokamaaStat7
namespace Go.Proofs.Ytlhchmmjkokamaa
open Go V
set_option linter.unusedVariables false
set_option linter.unusedSimpArgs false
def RS (R : List Int) : Prop := R.Pairwise (fun a b => a < b)
structure SFI (x : Int) (R : List Int) (k : Nat) : Prop where
  mem : ∀ y, y ∈ (sfi x R k).1 ↔ ((sfi x R k).2 = true ∧ y = x) ∨ (y ∈ R.take k ∧ y ≠ x)
  lo : (sfi x R k).2 = false → ∀ r ∈ R.take k, r < x
  hi : (sfi x R k).2 = true → ∃ r ∈ R.take k, x ≤ r
  srt : RS (sfi x R k).1
theorem rs_snoc {A : List Int} {y : Int} (h : RS A) (hy : ∀ a ∈ A, a < y) : RS (A ++ [y]) := List.pairwise_append.2 ⟨h, by simp, fun a ha b hb => by simp at hb; subst hb; exact hy a ha⟩
theorem sfi_all (x : Int) {R : List Int} (h : RS R) : ∀ k, SFI x R k
  | 0 => ⟨by simp [sfi], by simp, by simp [sfi], by simp [sfi, RS]⟩
  | k + 1 => by
    have ih := sfi_all x h k
    cases hr : R[k]? with
    | none =>
      have e1 : sfi x R (k + 1) = sfi x R k := by rw [sfi, hr]
      have e2 : R.take (k + 1) = R.take k := by rw [List.take_add_one, hr]; simp
      exact ⟨by rw [e1, e2]; exact ih.mem, by rw [e1, e2]; exact ih.lo, by rw [e1, e2]; exact ih.hi, by rw [e1]; exact ih.srt⟩
    | some r =>
      have et : R.take (k + 1) = R.take k ++ [r] := take_snoc hr
      have hlt : ∀ a ∈ R.take k, a < r := fun a ha => by
        obtain ⟨i, hi⟩ := List.mem_iff_getElem?.1 ha
        rw [List.getElem?_take] at hi; split at hi
        · obtain ⟨h1, h2⟩ := List.getElem?_eq_some_iff.1 hi
          obtain ⟨h3, h4⟩ := List.getElem?_eq_some_iff.1 hr
          have := List.pairwise_iff_getElem.1 h i k h1 h3 (by assumption); rw [h2, h4] at this; exact this
        · cases hi
      have es := sfi_succ (x := x) hr
      have keep : ∀ a ∈ (sfi x R k).1, a = x ∨ a < r := fun a ha => by
        rcases (ih.mem a).1 ha with ⟨_, e⟩ | ⟨e, _⟩
        · exact .inl e
        · exact .inr (hlt a e)
      cases hp : (sfi x R k).2 with
      | true =>
        obtain ⟨q, hq, hqx⟩ := ih.hi hp
        have hxr : x < r := by have := hlt q hq; omega
        have hne : r ≠ x := by omega
        have e : sfi x R (k + 1) = ((sfi x R k).1 ++ [r], true) := by rw [es, hp]; simp [hne]
        refine ⟨fun y => ?_, ?_, ?_, ?_⟩
        · rw [e, et]; simp only [List.mem_append, List.mem_singleton, ih.mem y, hp]; constructor
          · rintro ((h1 | ⟨h1, h2⟩) | h1)
            · exact .inl h1
            · exact .inr ⟨.inl h1, h2⟩
            · exact .inr ⟨.inr h1, by rw [h1]; exact hne⟩
          · rintro (h1 | ⟨h1 | h1, h2⟩)
            · exact .inl (.inl h1)
            · exact .inl (.inr ⟨h1, h2⟩)
            · exact .inr h1
        · rw [e]; intro g; cases g
        · rw [e, et]; intro _; exact ⟨q, by simp [hq], hqx⟩
        · rw [e]; exact rs_snoc ih.srt fun a ha => by
            rcases keep a ha with rfl | g
            · exact hxr
            · exact g
      | false =>
        have hlo := ih.lo hp
        have hsub : ∀ a ∈ (sfi x R k).1, a < x ∧ a < r := fun a ha => by
          rcases (ih.mem a).1 ha with ⟨e, _⟩ | ⟨e, _⟩
          · rw [hp] at e; cases e
          · exact ⟨hlo a e, hlt a e⟩
        by_cases hge : x ≤ r
        · by_cases hne : r = x
          · have e : sfi x R (k + 1) = ((sfi x R k).1 ++ [x], true) := by rw [es, hp]; simp [hne]
            refine ⟨fun y => ?_, ?_, ?_, ?_⟩
            · rw [e, et]; simp only [List.mem_append, List.mem_singleton, ih.mem y, hp]; constructor
              · rintro ((⟨h1, _⟩ | ⟨h1, h2⟩) | h1)
                · cases h1
                · exact .inr ⟨.inl h1, h2⟩
                · exact .inl ⟨trivial, h1⟩
              · rintro (⟨_, h1⟩ | ⟨h1 | h1, h2⟩)
                · exact .inr h1
                · exact .inl (.inr ⟨h1, h2⟩)
                · exact absurd (by rw [h1]; exact hne) h2
            · rw [e]; intro g; cases g
            · rw [e, et]; intro _; exact ⟨r, by simp, hge⟩
            · rw [e]; exact rs_snoc ih.srt fun a ha => (hsub a ha).1
          · have e : sfi x R (k + 1) = (((sfi x R k).1 ++ [x]) ++ [r], true) := by rw [es, hp]; simp [hne, hge]
            refine ⟨fun y => ?_, ?_, ?_, ?_⟩
            · rw [e, et]; simp only [List.mem_append, List.mem_singleton, ih.mem y, hp]; constructor
              · rintro (((⟨h1, _⟩ | ⟨h1, h2⟩) | h1) | h1)
                · cases h1
                · exact .inr ⟨.inl h1, h2⟩
                · exact .inl ⟨trivial, h1⟩
                · exact .inr ⟨.inr h1, by rw [h1]; exact hne⟩
              · rintro (⟨_, h1⟩ | ⟨h1 | h1, h2⟩)
                · exact .inl (.inr h1)
                · exact .inl (.inl (.inr ⟨h1, h2⟩))
                · exact .inr h1
            · rw [e]; intro g; cases g
            · rw [e, et]; intro _; exact ⟨r, by simp, hge⟩
            · rw [e]; refine rs_snoc (rs_snoc ih.srt fun a ha => (hsub a ha).1) fun a ha => ?_
              rcases List.mem_append.1 ha with ha | ha
              · exact (hsub a ha).2
              · simp at ha; subst ha; omega
        · have hne : r ≠ x := by omega
          have e : sfi x R (k + 1) = ((sfi x R k).1 ++ [r], false) := by rw [es, hp]; simp [hne, hge]
          refine ⟨fun y => ?_, ?_, ?_, ?_⟩
          · rw [e, et]; simp only [List.mem_append, List.mem_singleton, ih.mem y, hp]; constructor
            · rintro ((⟨h1, _⟩ | ⟨h1, h2⟩) | h1)
              · cases h1
              · exact .inr ⟨.inl h1, h2⟩
              · exact .inr ⟨.inr h1, by rw [h1]; exact hne⟩
            · rintro (⟨h1, _⟩ | ⟨h1 | h1, h2⟩)
              · cases h1
              · exact .inl (.inr ⟨h1, h2⟩)
              · exact .inr h1
          · rw [e, et]; intro _ a ha
            rcases List.mem_append.1 ha with ha | ha
            · exact hlo a ha
            · simp at ha; subst ha; omega
          · rw [e]; intro g; cases g
          · rw [e]; exact rs_snoc ih.srt fun a ha => (hsub a ha).2
theorem insI_mem {x : Int} {R : List Int} (h : RS R) (y : Int) : y ∈ insI x R ↔ y = x ∨ (y ∈ R ∧ y ≠ x) := by
  have s := (sfi_all x h R.length).mem y
  rw [List.take_length] at s
  unfold insI; split
  · rename_i hp; rw [s, hp]; simp
  · rename_i hp; rw [List.mem_append, s]; simp [hp]; exact or_comm
theorem insI_srt {x : Int} {R : List Int} (h : RS R) : RS (insI x R) := by
  have s := sfi_all x h R.length
  unfold insI; split
  · exact s.srt
  · rename_i hp; refine rs_snoc s.srt fun a ha => ?_
    rcases (s.mem a).1 ha with ⟨e, _⟩ | ⟨e, _⟩
    · exact absurd e hp
    · exact s.lo (by simpa using hp) a e
theorem clsR_law (w : List Pk) : ∀ k, k ≤ w.length → RS (clsR w k) ∧ ∀ c, c ∈ clsR w k ↔ ∃ p ∈ w.take k, p.pc = c
  | 0, _ => ⟨by simp [clsR, RS], by simp [clsR]⟩
  | k + 1, hk => by
    obtain ⟨h1, h2⟩ := clsR_law w k (by omega)
    have hx : w[k]? = some (w[k]'(by omega)) := List.getElem?_eq_getElem (by omega)
    generalize w[k]'(by omega) = x at hx
    rw [clsR_succ hx, take_snoc hx]
    refine ⟨insI_srt h1, fun c => ?_⟩
    rw [insI_mem h1]
    simp only [List.mem_append, List.mem_singleton, h2]
    constructor
    · rintro (rfl | ⟨⟨p, hp, rfl⟩, _⟩)
      · exact ⟨x, .inr rfl, rfl⟩
      · exact ⟨p, .inl hp, rfl⟩
    · rintro ⟨p, hp | rfl, rfl⟩
      · by_cases e : p.pc = x.pc
        · exact .inl e
        · exact .inr ⟨⟨p, hp, rfl⟩, e⟩
      · exact .inl rfl
theorem sortK_mem {cv : List (Int × SL)} {rv : List (Int × SR)} {w : List Pk} (h : StR cv rv w) (c : Int) : c ∈ sortK cv ↔ ∃ p ∈ w, p.pc = c := by
  rw [← h.keys c]; unfold sortK; rw [(List.mergeSort_perm _ _).mem_iff, List.mem_map]
  constructor
  · rintro ⟨p, hp, rfl⟩; rw [mget_of_mem h.nd hp]; simp
  · intro hk; cases e : mget cv c with
    | none => exact absurd e hk
    | some y => exact ⟨_, mget_mem e, rfl⟩
theorem sortK_nd {cv : List (Int × SL)} {rv : List (Int × SR)} {w : List Pk} (h : StR cv rv w) : (sortK cv).Nodup := (List.mergeSort_perm _ _).nodup_iff.2 h.nd
theorem cls_eq {cv : List (Int × SL)} {rv : List (Int × SR)} {w : List Pk} (h : StR cv rv w) : sortK cv = clsR w w.length := by
  obtain ⟨h1, h2⟩ := clsR_law w w.length (Nat.le_refl _)
  rw [List.take_length] at h2
  have hp : (sortK cv).Perm (clsR w w.length) := (List.perm_ext_iff_of_nodup (sortK_nd h) (h1.imp fun h e => by omega)).2 fun c => by rw [sortK_mem h, h2]
  have tr : ∀ a b c : Int, decide (a ≤ b) = true → decide (b ≤ c) = true → decide (a ≤ c) = true := fun a b c h1 h2 => by simp only [decide_eq_true_eq] at *; omega
  have to : ∀ a b : Int, (decide (a ≤ b) || decide (b ≤ a)) = true := fun a b => by simp only [Bool.or_eq_true, decide_eq_true_eq]; omega
  refine List.Perm.eq_of_pairwise (le := fun a b : Int => decide (a ≤ b) = true) (fun a b _ _ h1 h2 => ?_) (List.pairwise_mergeSort tr to _) (h1.imp fun h => by simp; omega) hp
  simp only [decide_eq_true_eq] at h1 h2; omega
theorem flat_out {x : Pk} {l : List Pk} : ∀ {ids : List Int}, x.pc ∉ ids → (ids.flatMap fun c => (x :: l).filter fun p => decide (p.pc = c)) = ids.flatMap fun c => l.filter fun p => decide (p.pc = c)
  | [], _ => rfl
  | c :: ids, h => by
    simp only [List.mem_cons, not_or] at h
    simp only [List.flatMap_cons, List.filter_cons]
    rw [if_neg (by simpa using h.1)]
    have := flat_out (l := l) h.2
    simp only [List.filter_cons] at this; rw [this]
theorem flat_in {x : Pk} {l : List Pk} : ∀ {ids : List Int}, ids.Nodup → x.pc ∈ ids → (ids.flatMap fun c => (x :: l).filter fun p => decide (p.pc = c)).Perm (x :: ids.flatMap fun c => l.filter fun p => decide (p.pc = c))
  | [], _, h => by cases h
  | c :: ids, hn, h => by
    obtain ⟨hn1, hn2⟩ := List.nodup_cons.1 hn
    by_cases e : x.pc = c
    · have h1 := flat_out (x := x) (l := l) (ids := ids) (by rw [e]; exact hn1)
      rw [List.flatMap_cons, h1, List.flatMap_cons, List.filter_cons, if_pos (by simpa using e)]
      exact .refl _
    · have h1 := flat_in (x := x) (l := l) hn2 (by rcases List.mem_cons.1 h with g | g; exact absurd g e; exact g)
      rw [List.flatMap_cons, List.flatMap_cons, List.filter_cons, if_neg (by simpa using e)]
      exact (h1.append_left _).trans List.perm_middle
theorem flat_perm {ids : List Int} (hn : ids.Nodup) : ∀ {l : List Pk}, (∀ p ∈ l, p.pc ∈ ids) → (ids.flatMap fun c => l.filter fun p => decide (p.pc = c)).Perm l
  | [], _ => by simp
  | x :: l, h => (flat_in hn (h x (by simp))).trans ((flat_perm hn fun p hp => h p (by simp [hp])).cons x)
theorem tot_sum {cv : List (Int × SL)} {rv : List (Int × SR)} {w : List Pk} (h : StR cv rv w) (ids : List Int) : ∀ k, k ≤ ids.length → SumIs ((ids.take k).flatMap fun c => goneF c false w) (totR rv ids k)
  | 0, _ => sumIs_nil
  | k + 1, hk => by
    have hx : ids[k]? = some (ids[k]'(by omega)) := List.getElem?_eq_getElem (by omega)
    generalize ids[k]'(by omega) = x at hx
    rw [totR_succ hx, take_snoc hx, List.flatMap_append]
    have := sumIs_append (tot_sum h ids k (by omega)) (h.rows x)
    simpa using this
theorem tot_eq {cv : List (Int × SL)} {rv : List (Int × SR)} {w : List Pk} (h : StR cv rv w) : totR rv (sortK cv) (sortK cv).length = cntR 0 true w w.length := by
  have h1 := tot_sum h (sortK cv) (sortK cv).length (Nat.le_refl _)
  rw [List.take_length] at h1
  rw [cntR_eq]
  refine sumIs_uniq h1 (sumIs_C _) ?_
  have e : (fun c => goneF c false w) = fun c => (goneF 0 true w).filter fun p => decide (p.pc = c) := by
    funext c; unfold goneF; rw [List.filter_filter]; congr 1; funext p; cases p.pg <;> simp [bne, Bool.beq_eq_decide_eq]
  rw [e]
  exact flat_perm (sortK_nd h) fun p hp => (sortK_mem h _).2 ⟨p, (List.mem_filter.1 hp).1, rfl⟩

end Go.Proofs.Ytlhchmmjkokamaa
