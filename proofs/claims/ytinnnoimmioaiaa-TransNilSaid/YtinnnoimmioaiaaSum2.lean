/- What the functions of this layer do, proved operation by operation, for all arguments, under the conditions that each theorem states. -/
import Derived.Test.YtinnnoimmioaiaaProg
import Derived.Test.YtinnnoimmioaiaaSum1
import Derived.Test.YtinnnoimmioaiaaSort7
import Derived.Test.YtinnnoimmioaiaaL2
namespace Go.Proofs.Ytinnnoimmioaiaa
open Go V
set_option linter.unusedVariables false
set_option linter.unusedSimpArgs false
set_option maxHeartbeats 4000000
set_option maxRecDepth 100000
def RSI (R : List Int) : Prop := R.Pairwise (· < ·)
def sfi (x : Int) (l : List Int) : Nat → List Int × Bool
  | 0 => ([], false)
  | k + 1 => match l[k]? with
    | none => sfi x l k
    | some r =>
      (if r ≠ x then (if !(sfi x l k).2 && decide (r ≥ x) then (sfi x l k).1 ++ [x] else (sfi x l k).1) ++ [r] else (if !(sfi x l k).2 && decide (r ≥ x) then (sfi x l k).1 ++ [x] else (sfi x l k).1),
        (sfi x l k).2 || (!(sfi x l k).2 && decide (r ≥ x)))
theorem sfi_succ {x r : Int} {l : List Int} {k : Nat} (h : l[k]? = some r) : sfi x l (k + 1) =
      (if r ≠ x then (if !(sfi x l k).2 && decide (r ≥ x) then (sfi x l k).1 ++ [x] else (sfi x l k).1) ++ [r] else (if !(sfi x l k).2 && decide (r ≥ x) then (sfi x l k).1 ++ [x] else (sfi x l k).1),
        (sfi x l k).2 || (!(sfi x l k).2 && decide (r ≥ x))) := by rw [sfi, h]
theorem sfi_len (x : Int) (l : List Int) : ∀ k, (sfi x l k).1.length ≤ k + (if (sfi x l k).2 then 1 else 0)
  | 0 => by simp [sfi]
  | k + 1 => by
    have ih := sfi_len x l k
    cases hr : l[k]? with
    | none => rw [show sfi x l (k + 1) = sfi x l k by rw [sfi, hr]]; split <;> split at ih <;> omega
    | some r =>
      rw [sfi_succ hr]
      cases hp : (sfi x l k).2 <;> rw [hp] at ih <;> by_cases h1 : r = x <;> by_cases h2 : x ≤ r <;> simp [h1, h2] at ih ⊢ <;> omega
theorem sfi_len1 (x : Int) (l : List Int) (k : Nat) : (sfi x l k).1.length ≤ k + 1 := by have := sfi_len x l k; split at this <;> omega
structure SFI (x : Int) (R : List Int) (k : Nat) : Prop where
  mem : ∀ y, y ∈ (sfi x R k).1 ↔ ((sfi x R k).2 = true ∧ y = x) ∨ (y ∈ R.take k ∧ y ≠ x)
  lo : (sfi x R k).2 = false → ∀ r ∈ R.take k, r < x
  hi : (sfi x R k).2 = true → ∃ r ∈ R.take k, x ≤ r
  srt : RSI (sfi x R k).1
theorem rsi_snoc {A : List Int} {y : Int} (h : RSI A) (hy : ∀ a ∈ A, a < y) : RSI (A ++ [y]) := List.pairwise_append.2 ⟨h, by simp, fun a ha b hb => by simp at hb; subst hb; exact hy a ha⟩
theorem sfi_all (x : Int) {R : List Int} (h : RSI R) : ∀ k, SFI x R k
  | 0 => ⟨by simp [sfi], by simp, by simp [sfi], by simp [sfi, RSI]⟩
  | k + 1 => by
    have ih := sfi_all x h k
    cases hr : R[k]? with
    | none =>
      have e1 : sfi x R (k + 1) = sfi x R k := by rw [sfi, hr]
      have e2 : R.take (k + 1) = R.take k := by rw [List.take_add_one, hr]; simp
      exact ⟨by rw [e1, e2]; exact ih.mem, by rw [e1, e2]; exact ih.lo, by rw [e1, e2]; exact ih.hi, by rw [e1]; exact ih.srt⟩
    | some r =>
      have et : R.take (k + 1) = R.take k ++ [r] := take_snoc hr
      have hlt : ∀ a ∈ R.take k, a < r := fun a ha => by
        obtain ⟨i, hi⟩ := List.mem_iff_getElem?.1 ha
        rw [List.getElem?_take] at hi; split at hi
        · obtain ⟨h1, h2⟩ := List.getElem?_eq_some_iff.1 hi
          obtain ⟨h3, h4⟩ := List.getElem?_eq_some_iff.1 hr
          have := List.pairwise_iff_getElem.1 h i k h1 h3 (by assumption); rw [h2, h4] at this; exact this
        · cases hi
      have es := sfi_succ (x := x) hr
      have keep : ∀ a ∈ (sfi x R k).1, a = x ∨ a < r := fun a ha => by
        rcases (ih.mem a).1 ha with ⟨_, e⟩ | ⟨e, _⟩
        · exact .inl e
        · exact .inr (hlt a e)
      cases hp : (sfi x R k).2 with
      | true =>
        obtain ⟨q, hq, hqx⟩ := ih.hi hp
        have hxr : x < r := by have := hlt q hq; omega
        have hne : r ≠ x := by omega
        have e : sfi x R (k + 1) = ((sfi x R k).1 ++ [r], true) := by rw [es, hp]; simp [hne]
        refine ⟨fun y => ?_, ?_, ?_, ?_⟩
        · rw [e, et]; simp only [List.mem_append, List.mem_singleton, ih.mem y, hp]; constructor
          · rintro ((h1 | ⟨h1, h2⟩) | h1)
            · exact .inl h1
            · exact .inr ⟨.inl h1, h2⟩
            · exact .inr ⟨.inr h1, by rw [h1]; exact hne⟩
          · rintro (h1 | ⟨h1 | h1, h2⟩)
            · exact .inl (.inl h1)
            · exact .inl (.inr ⟨h1, h2⟩)
            · exact .inr h1
        · rw [e]; intro g; cases g
        · rw [e, et]; intro _; exact ⟨q, by simp [hq], hqx⟩
        · rw [e]; exact rsi_snoc ih.srt fun a ha => by
            rcases keep a ha with rfl | g
            · exact hxr
            · exact g
      | false =>
        have hlo := ih.lo hp
        have hsub : ∀ a ∈ (sfi x R k).1, a < x ∧ a < r := fun a ha => by
          rcases (ih.mem a).1 ha with ⟨e, _⟩ | ⟨e, _⟩
          · rw [hp] at e; cases e
          · exact ⟨hlo a e, hlt a e⟩
        by_cases hge : x ≤ r
        · by_cases hne : r = x
          · have e : sfi x R (k + 1) = ((sfi x R k).1 ++ [x], true) := by rw [es, hp]; simp [hne]
            refine ⟨fun y => ?_, ?_, ?_, ?_⟩
            · rw [e, et]; simp only [List.mem_append, List.mem_singleton, ih.mem y, hp]; constructor
              · rintro ((⟨h1, _⟩ | ⟨h1, h2⟩) | h1)
                · cases h1
                · exact .inr ⟨.inl h1, h2⟩
                · exact .inl ⟨trivial, h1⟩
              · rintro (⟨_, h1⟩ | ⟨h1 | h1, h2⟩)
                · exact .inr h1
                · exact .inl (.inr ⟨h1, h2⟩)
                · exact absurd (by rw [h1]; exact hne) h2
            · rw [e]; intro g; cases g
            · rw [e, et]; intro _; exact ⟨r, by simp, hge⟩
            · rw [e]; exact rsi_snoc ih.srt fun a ha => (hsub a ha).1
          · have e : sfi x R (k + 1) = (((sfi x R k).1 ++ [x]) ++ [r], true) := by rw [es, hp]; simp [hne, hge]
            refine ⟨fun y => ?_, ?_, ?_, ?_⟩
            · rw [e, et]; simp only [List.mem_append, List.mem_singleton, ih.mem y, hp]; constructor
              · rintro (((⟨h1, _⟩ | ⟨h1, h2⟩) | h1) | h1)
                · cases h1
                · exact .inr ⟨.inl h1, h2⟩
                · exact .inl ⟨trivial, h1⟩
                · exact .inr ⟨.inr h1, by rw [h1]; exact hne⟩
              · rintro (⟨_, h1⟩ | ⟨h1 | h1, h2⟩)
                · exact .inl (.inr h1)
                · exact .inl (.inl (.inr ⟨h1, h2⟩))
                · exact .inr h1
            · rw [e]; intro g; cases g
            · rw [e, et]; intro _; exact ⟨r, by simp, hge⟩
            · rw [e]; refine rsi_snoc (rsi_snoc ih.srt fun a ha => (hsub a ha).1) fun a ha => ?_
              rcases List.mem_append.1 ha with ha | ha
              · exact (hsub a ha).2
              · simp at ha; subst ha; omega
        · have hne : r ≠ x := by omega
          have e : sfi x R (k + 1) = ((sfi x R k).1 ++ [r], false) := by rw [es, hp]; simp [hne, hge]
          refine ⟨fun y => ?_, ?_, ?_, ?_⟩
          · rw [e, et]; simp only [List.mem_append, List.mem_singleton, ih.mem y, hp]; constructor
            · rintro ((⟨h1, _⟩ | ⟨h1, h2⟩) | h1)
              · cases h1
              · exact .inr ⟨.inl h1, h2⟩
              · exact .inr ⟨.inr h1, by rw [h1]; exact hne⟩
            · rintro (⟨h1, _⟩ | ⟨h1 | h1, h2⟩)
              · cases h1
              · exact .inl (.inr ⟨h1, h2⟩)
              · exact .inr h1
          · rw [e, et]; intro _ a ha
            rcases List.mem_append.1 ha with ha | ha
            · exact hlo a ha
            · simp at ha; subst ha; omega
          · rw [e]; intro g; cases g
          · rw [e]; exact rsi_snoc ih.srt fun a ha => (hsub a ha).2
def insI (x : Int) (l : List Int) : List Int := if (sfi x l l.length).2 then (sfi x l l.length).1 else (sfi x l l.length).1 ++ [x]
theorem insI_len (x : Int) (l : List Int) : (insI x l).length ≤ l.length + 1 := by
  have := sfi_len x l l.length
  unfold insI; split <;> simp_all
theorem insI_mem {x : Int} {R : List Int} (h : RSI R) (y : Int) : y ∈ insI x R ↔ y = x ∨ y ∈ R := by
  have s := (sfi_all x h R.length).mem y
  rw [List.take_length] at s
  have e : ∀ q : Prop, (y = x ∨ (q ∧ y ≠ x)) ↔ (y = x ∨ q) := fun q => by by_cases g : y = x <;> simp [g]
  rw [← e (y ∈ R)]
  unfold insI; split
  · rename_i hp; rw [s, hp]; simp
  · rename_i hp; rw [List.mem_append, s]; simp [hp]; exact or_comm
theorem insI_srt {x : Int} {R : List Int} (h : RSI R) : RSI (insI x R) := by
  have s := sfi_all x h R.length
  unfold insI; split
  · exact s.srt
  · rename_i hp; refine rsi_snoc s.srt fun a ha => ?_
    rcases (s.mem a).1 ha with ⟨e, _⟩ | ⟨e, _⟩
    · exact absurd e hp
    · exact s.lo (by simpa using hp) a e
theorem rsi_ext : ∀ {a b : List Int}, RSI a → RSI b → (∀ y, y ∈ a ↔ y ∈ b) → a = b
  | [], [], _, _, _ => rfl
  | [], y :: b, _, _, h => by have := (h y).2 (by simp); simp at this
  | x :: a, [], _, _, h => by have := (h x).1 (by simp); simp at this
  | x :: a, y :: b, ha, hb, h => by
    obtain ⟨a1, a2⟩ := List.pairwise_cons.1 ha
    obtain ⟨b1, b2⟩ := List.pairwise_cons.1 hb
    have hxy : x = y := by
      rcases List.mem_cons.1 ((h x).1 (by simp)) with e | e
      · exact e
      · rcases List.mem_cons.1 ((h y).2 (by simp)) with e' | e'
        · exact e'.symm
        · have := a1 y e'; have := b1 x e; omega
    subst hxy
    rw [rsi_ext a2 b2 fun z => ?_]
    constructor
    · intro hz
      rcases List.mem_cons.1 ((h z).1 (by simp [hz])) with e | e
      · have := a1 z hz; omega
      · exact e
    · intro hz
      rcases List.mem_cons.1 ((h z).2 (by simp [hz])) with e | e
      · have := b1 z hz; omega
      · exact e
theorem cmp_up {d : Array Int} (hd : ∀ i, i + 1 < d.size → d[i]! ≤ d[i + 1]!) : ∀ m, m ≤ d.size → (∀ y, y ∈ Go.Lib.compactUpTo d m ↔ ∃ j, j < m ∧ d[j]! = y) ∧ RSI (Go.Lib.compactUpTo d m) ∧ ∀ y ∈ Go.Lib.compactUpTo d m, y ≤ d[m - 1]!
  | 0, _ => ⟨fun y => by simp [Go.Lib.compactUpTo], by simp [Go.Lib.compactUpTo, RSI], fun y h => by simp [Go.Lib.compactUpTo] at h⟩
  | m + 1, hm => by
    obtain ⟨h1, h2, h3⟩ := cmp_up hd m (by omega)
    rw [Go.Lib.compactUpTo_succ]
    have hstep : ∀ y ∈ Go.Lib.compactUpTo d m, y ≤ d[m]! := fun y hy => by
      have hy2 := h3 y hy
      cases m with
      | zero => simp [Go.Lib.compactUpTo] at hy
      | succ q => have := hd q (by omega); simp at hy2; omega
    by_cases hk : Go.Lib.keeps d m = true
    · rw [if_pos hk]
      refine ⟨fun y => ?_, ?_, fun y hy => ?_⟩
      · rw [List.mem_append, h1, List.mem_singleton]; constructor
        · rintro (⟨j, hj, e⟩ | e)
          · exact ⟨j, by omega, e⟩
          · exact ⟨m, by omega, e.symm⟩
        · rintro ⟨j, hj, e⟩
          by_cases g : j = m
          · subst g; exact .inr e.symm
          · exact .inl ⟨j, by omega, e⟩
      · refine rsi_snoc h2 fun y hy => ?_
        have h4 := hstep y hy
        cases m with
        | zero => simp [Go.Lib.compactUpTo] at hy
        | succ q =>
          have h5 := h3 y hy; have h6 := hd q (by omega)
          simp [Go.Lib.keeps] at hk
          simp at h5
          have h7 : d[q + 1]! ≠ d[q]! := fun e => hk e
          omega
      · rcases List.mem_append.1 hy with hy | hy
        · exact hstep y hy
        · simp at hy; subst hy; simp
    · rw [if_neg hk, List.append_nil]
      have hq : m ≠ 0 ∧ d[m]! = d[m - 1]! := by simp [Go.Lib.keeps] at hk; exact hk
      refine ⟨fun y => ?_, h2, fun y hy => hstep y hy⟩
      rw [h1]; constructor
      · rintro ⟨j, hj, e⟩; exact ⟨j, by omega, e⟩
      · rintro ⟨j, hj, e⟩
        by_cases g : j = m
        · subst g; exact ⟨j - 1, by omega, by rw [← hq.2]; exact e⟩
        · exact ⟨j, by omega, e⟩
theorem sortU_perm (l : List Int) : (sortU l).Perm l := List.mergeSort_perm _ _
theorem sortU_le (l : List Int) : (sortU l).Pairwise (· ≤ ·) := by
  have tr : ∀ a b c : Int, decide (a ≤ b) = true → decide (b ≤ c) = true → decide (a ≤ c) = true := fun a b c h1 h2 => by simp only [decide_eq_true_eq] at *; omega
  have to : ∀ a b : Int, (decide (a ≤ b) || decide (b ≤ a)) = true := fun a b => by simp only [Bool.or_eq_true, decide_eq_true_eq]; omega
  exact (List.pairwise_mergeSort tr to l).imp fun h => by simpa using h
/-- sorted, and each once -/
theorem cmp_sort (l : List Int) : RSI (cmpct (sortU l)) ∧ ∀ y, y ∈ cmpct (sortU l) ↔ y ∈ l := by
  have hd : ∀ i, i + 1 < (sortU l).toArray.size → (sortU l).toArray[i]! ≤ (sortU l).toArray[i + 1]! := fun i hi => by
    rw [getElem!_pos _ i (by omega), getElem!_pos _ (i + 1) hi]
    simpa using List.pairwise_iff_getElem.1 (sortU_le l) i (i + 1) (by simp at hi; omega) (by simpa using hi) (by omega)
  obtain ⟨h1, h2, _⟩ := cmp_up hd (sortU l).toArray.size (Nat.le_refl _)
  refine ⟨h2, fun y => ?_⟩
  unfold cmpct; rw [h1, ← (sortU_perm l).mem_iff, List.mem_iff_getElem]
  constructor
  · rintro ⟨j, hj, e⟩
    refine ⟨j, by simpa using hj, ?_⟩
    rw [getElem!_pos _ j hj] at e; simpa using e
  · rintro ⟨j, hj, e⟩
    refine ⟨j, by simpa using hj, ?_⟩
    rw [getElem!_pos _ j (by simpa using hj)]; simpa using e
def kraw (l : List Cv) : List Int := (l.filter fun v => ofC v.ka v.kb v.kc == 3 || ofC v.ka v.kb v.kc == 4).map (·.kb)
theorem kraw_snoc (l : List Cv) (x : Cv) : kraw (l ++ [x]) = kraw l ++ (if (ofC x.ka x.kb x.kc == 3 || ofC x.ka x.kb x.kc == 4) = true then [x.kb] else []) := by
  unfold kraw; rw [List.filter_append, List.map_append]; by_cases h : (ofC x.ka x.kb x.kc == 3 || ofC x.ka x.kb x.kc == 4) = true <;> simp [h]
theorem kraw_len (l : List Cv) : (kraw l).length ≤ l.length := by unfold kraw; rw [List.length_map]; exact List.length_filter_le _ _
def knC (l : List Cv) : List Int := cmpct (sortU (kraw l))
theorem knC_len (l : List Cv) : (knC l).length ≤ l.length := Nat.le_trans (cmpct_le _) (by rw [sortU_len]; exact kraw_len l)
def knR (l : List Cv) : Nat → List Int
  | 0 => []
  | k + 1 => match l[k]? with
    | none => knR l k
    | some v => if ofR v.ka v.kb v.kc < 3 then knR l k else insI v.kb (knR l k)
theorem knR_succ {l : List Cv} {k : Nat} {v : Cv} (h : l[k]? = some v) : knR l (k + 1) = if ofR v.ka v.kb v.kc < 3 then knR l k else insI v.kb (knR l k) := by rw [knR, h]
theorem knR_len (l : List Cv) : ∀ k, (knR l k).length ≤ k
  | 0 => by simp [knR]
  | k + 1 => by
    have ih := knR_len l k
    rw [knR]; split
    · omega
    · split
      · omega
      · have := insI_len (by assumption : Cv).kb (knR l k); omega
theorem knR_ok {l : List Cv} (hR : ∀ v ∈ l, CvOk v) : ∀ k, RSI (knR l k) ∧ ∀ y, y ∈ knR l k ↔ y ∈ kraw (l.take k)
  | 0 => ⟨by simp [knR, RSI], fun y => by simp [knR, kraw]⟩
  | k + 1 => by
    obtain ⟨h1, h2⟩ := knR_ok hR k
    cases hv : l[k]? with
    | none => rw [show knR l (k + 1) = knR l k by rw [knR, hv], show l.take (k + 1) = l.take k by rw [List.take_add_one, hv]; simp]; exact ⟨h1, h2⟩
    | some v =>
      obtain ⟨q1, q2, q3⟩ := cv_nn (hR v (List.mem_of_getElem? hv))
      have e := ofC_ofR q1.1 q2.1 q3.1
      have hr := ofC_rng v.ka v.kb v.kc
      rw [knR_succ hv, take_snoc hv, kraw_snoc]
      by_cases hc : ofR v.ka v.kb v.kc < 3
      · rw [if_pos hc, if_neg (by simp; omega), List.append_nil]; exact ⟨h1, h2⟩
      · rw [if_neg hc, if_pos (by simp; omega)]
        exact ⟨insI_srt h1, fun y => by rw [insI_mem h1, h2, List.mem_append, List.mem_singleton]; exact or_comm⟩
theorem kn_eq {l : List Cv} (hR : ∀ v ∈ l, CvOk v) : knR l l.length = knC l := by
  obtain ⟨h1, h2⟩ := knR_ok hR l.length
  obtain ⟨h3, h4⟩ := cmp_sort (kraw l)
  rw [List.take_length] at h2
  exact rsi_ext h1 h3 fun y => (h2 y).trans (h4 y).symm

theorem skn_spec (al : Option Addr) (l : List Cv) (cl : Nat) (hl : l.length ≤ 1000) (w : World) (r0 : arrAt w al (V.flat encCv l)) (hs : HS w (feet []) [] w) :
    Calls Try.prog 41 #[vS al l cl] w fun e w' => ∃ zz, e = .returned ((fun (zz : (Option Addr) × Nat) => match zz with | (al', cl') => (vS al' (knC l) cl')) zz) ∧ (fun (zz : (Option Addr) × Nat) => match zz with | (al', cl') => True) zz ∧ Turn [] ((fun (zz : (Option Addr) × Nat) => match zz with | (al', cl') => [sU al' (knC l) cl']) zz) w w' := by
  refine calls_of (args := [vS al l cl]) (penv [vS al l cl]) (feet []) [] Try.func41 rfl rfl (look_penv _) hs ?_
  refine A.sr (A.g [.p] [] [] ?_)
  refine tsr (A.g [.p] [] [(3, e_)] ?_)
  refine A.tn (A.seq (A.sr (A.g [.p, .p, .p] [0] [(7, vS al l cl), (8, c_ l.length), (9, i_ 0)] ?_)))
  refine A.tn (A.block (A.ownNil 24 1 [sU none ([] : List Int) 0] rfl ?_))
  refine A.setH [sU none (kraw (l.take 0)) 0] (cc (slC (by rfl : ([] : List Int) = (kraw (l.take 0)))) rfl) ?_
  refine A.sv 3 (vS none (kraw (l.take 0)) 0) (congrArg (fun z_ : List Int => some (Value.slice none z_.length 0)) (by rfl : ([] : List Int) = (kraw (l.take 0)))) ?_
  refine A.loop (fun (zz : Nat × (Option Addr) × Nat) => match zz with | (k, ao, co) => [(7, vS al l cl), (8, c_ l.length), (9, c_ k), (3, vS ao (kraw (l.take k)) co)]) (fun (zz : Nat × (Option Addr) × Nat) => match zz with | (k, ao, co) => [sU ao (kraw (l.take k)) co]) (fun (zz : Nat × (Option Addr) × Nat) => match zz with | (k, ao, co) => (k ≤ l.length)) (fun (zz : Nat × (Option Addr) × Nat) => match zz with | (k, ao, co) => l.length - k) (0, none, 0) (by omega) ?_ ?_
  · exact A.hK [0]
  rintro ⟨k, ao, co⟩ hk
  have hk : k ≤ l.length := hk
  have hkl : (kraw (l.take k)).length ≤ k := Nat.le_trans (kraw_len _) (by simp; omega)
  refine A.sr (A.g [.p] [] [(10, b_ (decide ((k : Int) < (l.length : Int))))] ?_)
  refine A.tn (A.seq (A.cn (decide ((k : Int) < (l.length : Int))) (fun e1 => ?_) (fun e1 => ?_)))
  · have p1 := of_decide_eq_true e1
    refine A.skip (A.tn (A.seq (A.block (A.sr (A.gpk [.ix] [10] [(11, (.pointer (some ((at0 al).add (k * 3)))))] [] (fun κ => κ.ix al l.length (k : Int) ∧ True) ⟨(ixOf encCv_len (by decide) (rd_old r0 (by simp [feet])) (by omega)), trivial⟩ ?_)))))
    obtain ⟨x2, hx2⟩ : ∃ x, (l)[k]? = some x := ⟨_, List.getElem?_eq_getElem (by omega)⟩
    refine A.goA1 [.rd (encCv x2), .al, .st 1] [7, 8, 9, 3, 5] (fun b3 => [(7, vS al l cl), (8, c_ l.length), (9, c_ k), (3, vS ao (kraw (l.take k)) co), (5, p_ b3)]) (fun b3 => [sU ao (kraw (l.take k)) co, blk b3 (encCv x2) 43]) (fun b3 => [b3]) (fun _ => (fun κ => κ.rd ((at0 al).add (k * 3)) (encCv x2) ∧ True)) (fun _ => by kernel_rfl) (fun b3 => ⟨(reads_at0 (vs := (encCv x2)) encCv_len (rd_old r0 (by simp [feet])) hx2 (Nat.le_of_ble_eq_true rfl) rfl), trivial⟩) ?_
    intro b3
    refine tsr (A.gk [.ld 1, .cq (i_ (ofC x2.ka x2.kb x2.kc)), .p] [] [(6, i_ (ofC x2.ka x2.kb x2.kc))] [b3] (fun κ => κ.call 86 [(.agg (encCv x2).toArray)] (i_ (ofC x2.ka x2.kb x2.kc)) ∧ True) ⟨(fun ww ss => of_spec x2.ka x2.kb x2.kc ww), trivial⟩ ?_)
    refine tsr (A.g [.p, .p, .p, .o, .p, .p, .cl] [6] [(20, b_ (((ofC x2.ka x2.kb x2.kc) == 3) || ((ofC x2.ka x2.kb x2.kc) == 4)))] ?_)
    refine A.tn (A.cn (((ofC x2.ka x2.kb x2.kc) == 3) || ((ofC x2.ka x2.kb x2.kc) == 4)) (fun e2 => ?_) (fun e2 => ?_))
    · have p2 := e2; try simp only [nrm] at p2
      refine A.region (A.gpk [.p, .p, .ld 1] [5, 20] [(21, vS ao (kraw (l.take k)) co), (23, u_ x2.kb)] [b3] T0 trivial ?_)
      refine A.cons (A.buildSlice 24 (e := 24) [u_ x2.kb] (by kernel_rfl) rfl (fun _ => by kernel_rfl) (fun b4 => [sU ao (kraw (l.take k)) co, blk b3 (encCv x2) 43, blk b4 [u_ x2.kb] 24]) (fun _ => rfl) ?_)
      intro b4
      refine A.cons (A.appendC (enc := encU) (xs := (kraw (l.take k))) ([x2.kb]) 0 25 (e := 24) (z := (u_ 0)) (sz := 1) (by_ := 8) (by kernel_rfl) rfl rfl rfl (by kernel_rfl) (by kernel_rfl) (by rfl) (by decide) encU_len encU_one rfl (rd_blk (i := 2) rfl) (by simp; omega) (fun A5 c5 => [sU A5 ((kraw (l.take k)) ++ ([x2.kb])) c5, blk b3 (encCv x2) 43, blk b4 [u_ x2.kb] 24]) (fun _ _ => rfl) ?_)
      intro A5 c5
      refine A.goA [.p] [(7, vS al l cl), (8, c_ l.length), (9, c_ k), (3, vS A5 ((kraw (l.take k)) ++ ([x2.kb])) c5)] [] T0 (by kernel_rfl) trivial ?_
      refine A.bn (tr (A.gk [.w ((k : Int) + 1), .p] [] [(9, i_ ((k : Int) + 1))] [] (fun κ => (IntKind.i64.wrap ((k : Int) + 1) = ((k : Int) + 1)) ∧ True) ⟨(wrap_i64 (e := (k : Int) + 1) (by constructor <;> omega)), trivial⟩ ?_))
      refine A.tn (A.setH [sU A5 (kraw (l.take (k + 1))) c5, blk b3 (encCv x2) 43, blk b4 [u_ x2.kb] 24] (cc (slC (by (rw [take_snoc (by assumption), kraw_snoc]; simp_all; done) : (kraw (l.take k)) ++ ([x2.kb]) = (kraw (l.take (k + 1))))) rfl) ?_)
      refine A.sv 3 (vS A5 (kraw (l.take (k + 1))) c5) (cgL (by (rw [take_snoc (by assumption), kraw_snoc]; simp_all; done))) ?_
      refine A.next (k + 1, A5, c5) (by omega) (by (simp; omega)) ?_
      exact A.hK [0]
    have p2 := e2; try simp only [nrm] at p2
    refine A.skip (A.bn (tr (A.gk [.w ((k : Int) + 1), .p] [5, 20] [(9, i_ ((k : Int) + 1))] [] (fun κ => (IntKind.i64.wrap ((k : Int) + 1) = ((k : Int) + 1)) ∧ True) ⟨(wrap_i64 (e := (k : Int) + 1) (by constructor <;> omega)), trivial⟩ ?_)))
    refine A.tn (A.setH [sU ao (kraw (l.take (k + 1))) co, blk b3 (encCv x2) 43] (cc (slC (by (rw [take_snoc (by assumption), kraw_snoc]; simp_all; done) : (kraw (l.take k)) = (kraw (l.take (k + 1))))) rfl) ?_)
    refine A.sv 3 (vS ao (kraw (l.take (k + 1))) co) (cgL (by (rw [take_snoc (by assumption), kraw_snoc]; simp_all; done))) ?_
    refine A.next (k + 1, ao, co) (by omega) (by (simp; omega)) ?_
    exact A.hK [0]
  have p1 := of_decide_eq_false e1
  refine A.exit (A.te (A.te (A.bh (tsr (A.gp [.p] [7, 8, 9, 10] [(27, vS ao (kraw (l.take k)) co)] ?_)))))
  refine A.cons (A.cT (some 28) [vS ao (kraw (l.take k)) co] [0] ((fun _ => (.tuple #[]))) ((fun _ => True)) ((fun _ => [sU ao (sortU (kraw (l.take k))) co])) (fun ww ss hh => sortU_spec ao (kraw (l.take k)) co (by omega) ww hh) ?_)
  rintro ⟨⟩ -
  refine A.sv 3 (vS ao (sortU (kraw (l.take k))) co) (cgN (by simp [sortU_len])) (A.sv 27 (vS ao (sortU (kraw (l.take k))) co) (cgN (by simp [sortU_len])) ?_)
  refine A.done ?_
  refine tsr (A.gp [.p] [3, 27, 28] [(29, vS ao (sortU (kraw (l.take k))) co)] ?_)
  refine A.cons (A.cT (some 30) [vS ao (sortU (kraw (l.take k))) co] [0] ((fun _ => (vS ao (cmpct (sortU (kraw (l.take k)))) co))) ((fun _ => True)) ((fun _ => [sU ao (cmpct (sortU (kraw (l.take k)))) co])) (fun ww ss hh => cmpctU_spec ao (sortU (kraw (l.take k))) co (by (rw [sortU_len]; omega)) ww hh) ?_)
  rintro ⟨⟩ -
  refine A.g [.p] [29, 30] [(2, vS ao (cmpct (sortU (kraw (l.take k)))) co)] ?_
  refine A.tn (A.ret (A.setH [sU ao (knC l) co] (cc (slC (by (rw [show k = l.length by omega, List.take_length]; rfl) : (cmpct (sortU (kraw (l.take k)))) = (knC l))) rfl) ?_))
  refine A.pK [0] [vS ao (cmpct (sortU (kraw (l.take k)))) co] (ao, co) ?_ ?_
  · show ((vS ao (cmpct (sortU (kraw (l.take k)))) co) : Value) = (vS ao (knC l) co)
    rw [show k = l.length by omega, List.take_length]; rfl
  trivial

theorem rkn_spec (al : Option Addr) (l : List Cv) (cl : Nat) (hl : l.length ≤ 1000) (w : World) (r0 : arrAt w al (V.flat encCv l)) (hs : HS w (feet []) [] w) :
    Calls Try.prog 48 #[vS al l cl] w fun e w' => ∃ zz, e = .returned ((fun (zz : (Option Addr) × Nat) => match zz with | (al', cl') => (vS al' (knR l l.length) cl')) zz) ∧ (fun (zz : (Option Addr) × Nat) => match zz with | (al', cl') => True) zz ∧ Turn [] ((fun (zz : (Option Addr) × Nat) => match zz with | (al', cl') => [sU al' (knR l l.length) cl']) zz) w w' := by
  refine calls_of (args := [vS al l cl]) (penv [vS al l cl]) (feet []) [] Try.func48 rfl rfl (look_penv _) hs ?_
  refine A.sr (A.g [.p] [] [] ?_)
  refine tsr (A.g [.p] [] [(3, e_)] ?_)
  refine A.tn (A.seq (A.sr (A.g [.p, .p, .p] [0] [(10, vS al l cl), (11, c_ l.length), (12, i_ 0)] ?_)))
  refine A.tn (A.block (A.ownNil 24 1 [sU none ([] : List Int) 0] rfl ?_))
  refine A.setH [sU none (knR l 0) 0] (cc (slC (by rfl : ([] : List Int) = (knR l 0))) rfl) ?_
  refine A.sv 3 (vS none (knR l 0) 0) (congrArg (fun z_ : List Int => some (Value.slice none z_.length 0)) (by rfl : ([] : List Int) = (knR l 0))) ?_
  refine A.loop (fun (zz : Nat × (Option Addr) × Nat) => match zz with | (k, ao, co) => [(10, vS al l cl), (11, c_ l.length), (12, c_ k), (3, vS ao (knR l k) co)]) (fun (zz : Nat × (Option Addr) × Nat) => match zz with | (k, ao, co) => [sU ao (knR l k) co]) (fun (zz : Nat × (Option Addr) × Nat) => match zz with | (k, ao, co) => (k ≤ l.length)) (fun (zz : Nat × (Option Addr) × Nat) => match zz with | (k, ao, co) => l.length - k) (0, none, 0) (by omega) ?_ ?_
  · exact A.hK [0]
  rintro ⟨k, ao, co⟩ hk
  have hk : k ≤ l.length := hk
  have hkl := knR_len l k
  refine A.sr (A.g [.p] [] [(13, b_ (decide ((k : Int) < (l.length : Int))))] ?_)
  refine A.tn (A.seq (A.cn (decide ((k : Int) < (l.length : Int))) (fun e1 => ?_) (fun e1 => ?_)))
  · have p1 := of_decide_eq_true e1
    refine A.skip (A.tn (A.seq (A.block (A.sr (A.gpk [.ix] [13] [(14, (.pointer (some ((at0 al).add (k * 3)))))] [] (fun κ => κ.ix al l.length (k : Int) ∧ True) ⟨(ixOf encCv_len (by decide) (rd_old r0 (by simp [feet])) (by omega)), trivial⟩ ?_)))))
    obtain ⟨x2, hx2⟩ : ∃ x, (l)[k]? = some x := ⟨_, List.getElem?_eq_getElem (by omega)⟩
    refine A.goA1 [.rd (encCv x2), .al, .st 1] [10, 11, 12, 3, 5] (fun b3 => [(10, vS al l cl), (11, c_ l.length), (12, c_ k), (3, vS ao (knR l k) co), (5, p_ b3)]) (fun b3 => [sU ao (knR l k) co, blk b3 (encCv x2) 43]) (fun b3 => [b3]) (fun _ => (fun κ => κ.rd ((at0 al).add (k * 3)) (encCv x2) ∧ True)) (fun _ => by kernel_rfl) (fun b3 => ⟨(reads_at0 (vs := (encCv x2)) encCv_len (rd_old r0 (by simp [feet])) hx2 (Nat.le_of_ble_eq_true rfl) rfl), trivial⟩) ?_
    intro b3
    refine A.tn (A.seq (A.sr (A.gk [.ld 1, .cq (i_ (ofR x2.ka x2.kb x2.kc)), .p] [] [(18, b_ (decide ((ofR x2.ka x2.kb x2.kc) < 3)))] [b3] (fun κ => κ.call 97 [(.agg (encCv x2).toArray)] (i_ (ofR x2.ka x2.kb x2.kc)) ∧ True) ⟨(fun ww ss => rof_spec x2.ka x2.kb x2.kc ww), trivial⟩ ?_)))
    refine A.tn (A.cn (decide ((ofR x2.ka x2.kb x2.kc) < 3)) (fun e2 => ?_) (fun e2 => ?_))
    · have p2 := of_decide_eq_true e2
      refine A.exit (A.te (A.bh (tr (A.gk [.w ((k : Int) + 1), .p] [5, 18] [(12, i_ ((k : Int) + 1))] [] (fun κ => (IntKind.i64.wrap ((k : Int) + 1) = ((k : Int) + 1)) ∧ True) ⟨(wrap_i64 (e := (k : Int) + 1) (by constructor <;> omega)), trivial⟩ ?_))))
      refine A.tn (A.setH [sU ao (knR l (k + 1)) co, blk b3 (encCv x2) 43] (cc (slC (by (rw [knR_succ (by assumption), if_pos (by omega)]; done) : (knR l k) = (knR l (k + 1)))) rfl) ?_)
      refine A.sv 3 (vS ao (knR l (k + 1)) co) (cgL (by (rw [knR_succ (by assumption), if_pos (by omega)]; done))) ?_
      refine A.next (k + 1, ao, co) (by omega) (by (simp; omega)) ?_
      exact A.hK [0]
    have p2 := of_decide_eq_false e2
    refine A.skip (tsr (A.g [.p] [18] [(6, e_)] ?_))
    refine tsr (A.g [.p] [] [(7, b_ false)] ?_)
    refine A.tn (A.seq (A.sr (A.g [.p, .p, .p] [3] [(19, vS ao (knR l k) co), (20, i_ ((knR l k).length : Int)), (21, i_ 0)] ?_)))
    refine A.tn (A.block (A.ownNil 24 1 [sU ao (knR l k) co, blk b3 (encCv x2) 43, sU none ([] : List Int) 0] rfl ?_))
    refine A.sv 7 (b_ ((sfi x2.kb (knR l k) 0).2)) (cgB (by rfl)) ?_
    refine A.setH [sU ao (knR l k) co, blk b3 (encCv x2) 43, sU none ((sfi x2.kb (knR l k) 0).1) 0] (cc rfl (cc rfl (cc (slC (by rfl : ([] : List Int) = (sfi x2.kb (knR l k) 0).1)) rfl))) ?_
    refine A.sv 6 (vS none ((sfi x2.kb (knR l k) 0).1) 0) (congrArg (fun z_ : List Int => some (Value.slice none z_.length 0)) (by rfl : ([] : List Int) = (sfi x2.kb (knR l k) 0).1)) ?_
    refine A.loop (fun (zz : Nat × (Option Addr) × Nat) => match zz with | (j, an, cn) => [(10, vS al l cl), (11, c_ l.length), (12, c_ k), (5, p_ b3), (19, vS ao (knR l k) co), (20, i_ ((knR l k).length : Int)), (21, c_ j), (6, vS an ((sfi x2.kb (knR l k) j).1) cn), (7, b_ ((sfi x2.kb (knR l k) j).2))]) (fun (zz : Nat × (Option Addr) × Nat) => match zz with | (j, an, cn) => [sU ao (knR l k) co, sU an ((sfi x2.kb (knR l k) j).1) cn, blk b3 (encCv x2) 43]) (fun (zz : Nat × (Option Addr) × Nat) => match zz with | (j, an, cn) => (j ≤ (knR l k).length)) (fun (zz : Nat × (Option Addr) × Nat) => match zz with | (j, an, cn) => (knR l k).length - j) (0, none, 0) (by omega) ?_ ?_
    · exact A.hK [0, 1, 0]
    rintro ⟨j, an, cn⟩ hj
    have hj : j ≤ (knR l k).length := hj
    have hsl := sfi_len1 x2.kb (knR l k) j
    refine A.sr (A.g [.p] [] [(22, b_ (decide ((j : Int) < ((knR l k).length : Int))))] ?_)
    refine A.tn (A.seq (A.cn (decide ((j : Int) < ((knR l k).length : Int))) (fun e3 => ?_) (fun e3 => ?_)))
    · have p3 := of_decide_eq_true e3
      refine A.skip (A.tn (A.seq (A.block (A.sr (A.gpk [.ix] [22] [(23, (.pointer (some ((at0 ao).add (j * 1)))))] [] (fun κ => κ.ix ao ((knR l k).length) (j : Int) ∧ True) ⟨(ixOf encU_len (by decide) (rd_sl (i := 0) rfl) (by omega)), trivial⟩ ?_)))))
      obtain ⟨x5, hx5⟩ : ∃ x, ((knR l k))[j]? = some x := ⟨_, List.getElem?_eq_getElem (by omega)⟩
      refine A.gk [.rd [u_ x5], .p] [23] [(9, u_ x5)] [] (fun κ => κ.rd ((at0 ao).add (j * 1)) [u_ x5] ∧ True) ⟨(reads_at0 (vs := [u_ x5]) encU_len (rd_sl (i := 0) rfl) hx5 (Nat.le_of_ble_eq_true rfl) rfl), trivial⟩ ?_
      refine A.tn (A.seq (A.sr (A.gk [.p, .p, .p, .o, .p, .p, .ld 2, .p, .cl] [] [(32, b_ ((!((sfi x2.kb (knR l k) j).2)) && (decide (x5 ≥ x2.kb))))] [b3] T0 trivial ?_)))
      refine A.tn (A.cn ((!((sfi x2.kb (knR l k) j).2)) && (decide (x5 ≥ x2.kb))) (fun e4 => ?_) (fun e4 => ?_))
      · have p4 := e4; try simp only [nrm] at p4
        refine A.sr (A.gpk [.p, .p, .ld 2] [7, 32] [(33, vS an ((sfi x2.kb (knR l k) j).1) cn), (35, u_ x2.kb)] [b3] T0 trivial ?_)
        refine A.cons (A.buildSlice 36 (e := 24) [u_ x2.kb] (by kernel_rfl) rfl (fun _ => by kernel_rfl) (fun b6 => [sU ao (knR l k) co, sU an ((sfi x2.kb (knR l k) j).1) cn, blk b3 (encCv x2) 43, blk b6 [u_ x2.kb] 24]) (fun _ => rfl) ?_)
        intro b6
        refine A.cons (A.appendC (enc := encU) (xs := (sfi x2.kb (knR l k) j).1) ([x2.kb]) 1 37 (e := 24) (z := (u_ 0)) (sz := 1) (by_ := 8) (by kernel_rfl) rfl rfl rfl (by kernel_rfl) (by kernel_rfl) (by rfl) (by decide) encU_len encU_one rfl (rd_blk (i := 3) rfl) (by simp; omega) (fun A7 c7 => [sU ao (knR l k) co, sU A7 (((sfi x2.kb (knR l k) j).1) ++ ([x2.kb])) c7, blk b3 (encCv x2) 43, blk b6 [u_ x2.kb] 24]) (fun _ _ => rfl) ?_)
        intro A7 c7
        refine A.goA [.p] [(10, vS al l cl), (11, c_ l.length), (12, c_ k), (5, p_ b3), (19, vS ao (knR l k) co), (20, i_ ((knR l k).length : Int)), (21, c_ j), (6, vS A7 (((sfi x2.kb (knR l k) j).1) ++ ([x2.kb])) c7), (9, u_ x5)] [] T0 (by kernel_rfl) trivial ?_
        refine tr (A.g [.p] [] [(7, b_ true)] ?_)
        refine tsr (A.gk [.p, .p, .ld 2, .p] [] [(41, b_ (x5 != x2.kb))] [b3] T0 trivial ?_)
        refine A.tn (A.cn (x5 != x2.kb) (fun e5 => ?_) (fun e5 => ?_))
        · have p5 := e5; try simp only [nrm] at p5
          refine A.region (A.gp [.p, .p] [9, 41] [(42, vS A7 (((sfi x2.kb (knR l k) j).1) ++ ([x2.kb])) c7), (43, u_ x5)] ?_)
          refine A.cons (A.buildSlice 44 (e := 24) [u_ x5] (by kernel_rfl) rfl (fun _ => by kernel_rfl) (fun b8 => [sU ao (knR l k) co, sU A7 (((sfi x2.kb (knR l k) j).1) ++ ([x2.kb])) c7, blk b3 (encCv x2) 43, blk b6 [u_ x2.kb] 24, blk b8 [u_ x5] 24]) (fun _ => rfl) ?_)
          intro b8
          refine A.cons (A.appendC (enc := encU) (xs := ((sfi x2.kb (knR l k) j).1) ++ ([x2.kb])) ([x5]) 1 45 (e := 24) (z := (u_ 0)) (sz := 1) (by_ := 8) (by kernel_rfl) rfl rfl rfl (by kernel_rfl) (by kernel_rfl) (by rfl) (by decide) encU_len encU_one rfl (rd_blk (i := 4) rfl) (by simp; omega) (fun A9 c9 => [sU ao (knR l k) co, sU A9 ((((sfi x2.kb (knR l k) j).1) ++ ([x2.kb])) ++ ([x5])) c9, blk b3 (encCv x2) 43, blk b6 [u_ x2.kb] 24, blk b8 [u_ x5] 24]) (fun _ _ => rfl) ?_)
          intro A9 c9
          refine A.goA [.p] [(10, vS al l cl), (11, c_ l.length), (12, c_ k), (5, p_ b3), (19, vS ao (knR l k) co), (20, i_ ((knR l k).length : Int)), (21, c_ j), (6, vS A9 ((((sfi x2.kb (knR l k) j).1) ++ ([x2.kb])) ++ ([x5])) c9), (7, b_ true)] [] T0 (by kernel_rfl) trivial ?_
          refine A.bn (tr (A.gk [.w ((j : Int) + 1), .p] [] [(21, i_ ((j : Int) + 1))] [] (fun κ => (IntKind.i64.wrap ((j : Int) + 1) = ((j : Int) + 1)) ∧ True) ⟨(wrap_i64 (e := (j : Int) + 1) (by constructor <;> omega)), trivial⟩ ?_))
          refine A.tn (A.sv 7 (b_ ((sfi x2.kb (knR l k) (j + 1)).2)) (cgB (by (rw [sfi_succ (by assumption)]; simp_all; done))) ?_)
          refine A.setH [sU ao (knR l k) co, sU A9 ((sfi x2.kb (knR l k) (j + 1)).1) c9, blk b3 (encCv x2) 43, blk b6 [u_ x2.kb] 24, blk b8 [u_ x5] 24] (cc rfl (cc (slC (by (rw [sfi_succ (by assumption)]; simp_all; done) : (((sfi x2.kb (knR l k) j).1) ++ ([x2.kb])) ++ ([x5]) = (sfi x2.kb (knR l k) (j + 1)).1)) rfl)) ?_
          refine A.sv 6 (vS A9 ((sfi x2.kb (knR l k) (j + 1)).1) c9) (cgL (by (rw [sfi_succ (by assumption)]; simp_all; done))) ?_
          refine A.next (j + 1, A9, c9) (by omega) (by (simp; omega)) ?_
          exact A.hK [0, 0, 0]
        have p5 := e5; try simp only [nrm] at p5
        refine A.skip (A.bn (tr (A.gk [.w ((j : Int) + 1), .p] [9, 41] [(21, i_ ((j : Int) + 1))] [] (fun κ => (IntKind.i64.wrap ((j : Int) + 1) = ((j : Int) + 1)) ∧ True) ⟨(wrap_i64 (e := (j : Int) + 1) (by constructor <;> omega)), trivial⟩ ?_)))
        refine A.tn (A.sv 7 (b_ ((sfi x2.kb (knR l k) (j + 1)).2)) (cgB (by (rw [sfi_succ (by assumption)]; simp_all; done))) ?_)
        refine A.setH [sU ao (knR l k) co, sU A7 ((sfi x2.kb (knR l k) (j + 1)).1) c7, blk b3 (encCv x2) 43, blk b6 [u_ x2.kb] 24] (cc rfl (cc (slC (by (rw [sfi_succ (by assumption)]; simp_all; done) : ((sfi x2.kb (knR l k) j).1) ++ ([x2.kb]) = (sfi x2.kb (knR l k) (j + 1)).1)) rfl)) ?_
        refine A.sv 6 (vS A7 ((sfi x2.kb (knR l k) (j + 1)).1) c7) (cgL (by (rw [sfi_succ (by assumption)]; simp_all; done))) ?_
        refine A.next (j + 1, A7, c7) (by omega) (by (simp; omega)) ?_
        exact A.hK [0, 0, 0]
      have p4 := e4; try simp only [nrm] at p4
      refine A.skip (tsr (A.gk [.p, .p, .ld 2, .p] [32] [(41, b_ (x5 != x2.kb))] [b3] T0 trivial ?_))
      refine A.tn (A.cn (x5 != x2.kb) (fun e6 => ?_) (fun e6 => ?_))
      · have p6 := e6; try simp only [nrm] at p6
        refine A.region (A.gp [.p, .p] [9, 41] [(42, vS an ((sfi x2.kb (knR l k) j).1) cn), (43, u_ x5)] ?_)
        refine A.cons (A.buildSlice 44 (e := 24) [u_ x5] (by kernel_rfl) rfl (fun _ => by kernel_rfl) (fun b10 => [sU ao (knR l k) co, sU an ((sfi x2.kb (knR l k) j).1) cn, blk b3 (encCv x2) 43, blk b10 [u_ x5] 24]) (fun _ => rfl) ?_)
        intro b10
        refine A.cons (A.appendC (enc := encU) (xs := (sfi x2.kb (knR l k) j).1) ([x5]) 1 45 (e := 24) (z := (u_ 0)) (sz := 1) (by_ := 8) (by kernel_rfl) rfl rfl rfl (by kernel_rfl) (by kernel_rfl) (by rfl) (by decide) encU_len encU_one rfl (rd_blk (i := 3) rfl) (by simp; omega) (fun A11 c11 => [sU ao (knR l k) co, sU A11 (((sfi x2.kb (knR l k) j).1) ++ ([x5])) c11, blk b3 (encCv x2) 43, blk b10 [u_ x5] 24]) (fun _ _ => rfl) ?_)
        intro A11 c11
        refine A.goA [.p] [(10, vS al l cl), (11, c_ l.length), (12, c_ k), (5, p_ b3), (19, vS ao (knR l k) co), (20, i_ ((knR l k).length : Int)), (21, c_ j), (6, vS A11 (((sfi x2.kb (knR l k) j).1) ++ ([x5])) c11), (7, b_ ((sfi x2.kb (knR l k) j).2))] [] T0 (by kernel_rfl) trivial ?_
        refine A.bn (tr (A.gk [.w ((j : Int) + 1), .p] [] [(21, i_ ((j : Int) + 1))] [] (fun κ => (IntKind.i64.wrap ((j : Int) + 1) = ((j : Int) + 1)) ∧ True) ⟨(wrap_i64 (e := (j : Int) + 1) (by constructor <;> omega)), trivial⟩ ?_))
        refine A.tn (A.sv 7 (b_ ((sfi x2.kb (knR l k) (j + 1)).2)) (cgB (by (rw [sfi_succ (by assumption)]; simp_all; done))) ?_)
        refine A.setH [sU ao (knR l k) co, sU A11 ((sfi x2.kb (knR l k) (j + 1)).1) c11, blk b3 (encCv x2) 43, blk b10 [u_ x5] 24] (cc rfl (cc (slC (by (rw [sfi_succ (by assumption)]; simp_all; done) : ((sfi x2.kb (knR l k) j).1) ++ ([x5]) = (sfi x2.kb (knR l k) (j + 1)).1)) rfl)) ?_
        refine A.sv 6 (vS A11 ((sfi x2.kb (knR l k) (j + 1)).1) c11) (cgL (by (rw [sfi_succ (by assumption)]; simp_all; done))) ?_
        refine A.next (j + 1, A11, c11) (by omega) (by (simp; omega)) ?_
        exact A.hK [0, 0, 0]
      have p6 := e6; try simp only [nrm] at p6
      refine A.skip (A.bn (tr (A.gk [.w ((j : Int) + 1), .p] [9, 41] [(21, i_ ((j : Int) + 1))] [] (fun κ => (IntKind.i64.wrap ((j : Int) + 1) = ((j : Int) + 1)) ∧ True) ⟨(wrap_i64 (e := (j : Int) + 1) (by constructor <;> omega)), trivial⟩ ?_)))
      refine A.tn (A.sv 7 (b_ ((sfi x2.kb (knR l k) (j + 1)).2)) (cgB (by (rw [sfi_succ (by assumption)]; simp_all; done))) ?_)
      refine A.setH [sU ao (knR l k) co, sU an ((sfi x2.kb (knR l k) (j + 1)).1) cn, blk b3 (encCv x2) 43] (cc rfl (cc (slC (by (rw [sfi_succ (by assumption)]; simp_all; done) : (sfi x2.kb (knR l k) j).1 = (sfi x2.kb (knR l k) (j + 1)).1)) rfl)) ?_
      refine A.sv 6 (vS an ((sfi x2.kb (knR l k) (j + 1)).1) cn) (cgL (by (rw [sfi_succ (by assumption)]; simp_all; done))) ?_
      refine A.next (j + 1, an, cn) (by omega) (by (simp; omega)) ?_
      exact A.hK [0, 0, 0]
    have p3 := of_decide_eq_false e3
    refine A.exit (A.te (A.te (A.bh (A.tn (A.seq (A.sr (A.g [.p, .p] [19, 20, 21, 7, 22] [(48, b_ (!((sfi x2.kb (knR l k) j).2)))] ?_)))))))
    refine A.tn (A.cn (!((sfi x2.kb (knR l k) j).2)) (fun e7 => ?_) (fun e7 => ?_))
    · have p7 := e7; try simp only [nrm] at p7
      refine A.region (A.gpk [.p, .p, .ld 2] [5, 48] [(49, vS an ((sfi x2.kb (knR l k) j).1) cn), (51, u_ x2.kb)] [b3] T0 trivial ?_)
      refine A.cons (A.buildSlice 52 (e := 24) [u_ x2.kb] (by kernel_rfl) rfl (fun _ => by kernel_rfl) (fun b12 => [sU ao (knR l k) co, sU an ((sfi x2.kb (knR l k) j).1) cn, blk b3 (encCv x2) 43, blk b12 [u_ x2.kb] 24]) (fun _ => rfl) ?_)
      intro b12
      refine A.cons (A.appendC (enc := encU) (xs := (sfi x2.kb (knR l k) j).1) ([x2.kb]) 1 53 (e := 24) (z := (u_ 0)) (sz := 1) (by_ := 8) (by kernel_rfl) rfl rfl rfl (by kernel_rfl) (by kernel_rfl) (by rfl) (by decide) encU_len encU_one rfl (rd_blk (i := 3) rfl) (by simp; omega) (fun A13 c13 => [sU ao (knR l k) co, sU A13 (((sfi x2.kb (knR l k) j).1) ++ ([x2.kb])) c13, blk b3 (encCv x2) 43, blk b12 [u_ x2.kb] 24]) (fun _ _ => rfl) ?_)
      intro A13 c13
      refine A.goA [.p] [(10, vS al l cl), (11, c_ l.length), (12, c_ k), (6, vS A13 (((sfi x2.kb (knR l k) j).1) ++ ([x2.kb])) c13)] [] T0 (by kernel_rfl) trivial ?_
      refine tr (A.g [.p, .p] [6] [(3, vS A13 (((sfi x2.kb (knR l k) j).1) ++ ([x2.kb])) c13)] ?_)
      refine A.bn (tr (A.gk [.w ((k : Int) + 1), .p] [] [(12, i_ ((k : Int) + 1))] [] (fun κ => (IntKind.i64.wrap ((k : Int) + 1) = ((k : Int) + 1)) ∧ True) ⟨(wrap_i64 (e := (k : Int) + 1) (by constructor <;> omega)), trivial⟩ ?_))
      refine A.tn (?_)
      refine A.items [sU A13 (((sfi x2.kb (knR l k) j).1) ++ ([x2.kb])) c13, blk b3 (encCv x2) 43, blk b12 [u_ x2.kb] 24] (.cons _ (.cons_cons _ (.cons_cons _ (.cons_cons _ (List.Sublist.slnil))))) ?_
      refine A.setH [sU A13 (knR l (k + 1)) c13, blk b3 (encCv x2) 43, blk b12 [u_ x2.kb] 24] (cc (slC (by (rw [knR_succ (by assumption), if_neg (by omega)]; (have hj2 : j = (knR l k).length := by omega); subst hj2; unfold insI; simp_all; done) : ((sfi x2.kb (knR l k) j).1) ++ ([x2.kb]) = (knR l (k + 1)))) rfl) ?_
      refine A.sv 3 (vS A13 (knR l (k + 1)) c13) (cgL (by (rw [knR_succ (by assumption), if_neg (by omega)]; (have hj2 : j = (knR l k).length := by omega); subst hj2; unfold insI; simp_all; done))) ?_
      refine A.next (k + 1, A13, c13) (by omega) (by (simp; omega)) ?_
      exact A.hK [0]
    have p7 := e7; try simp only [nrm] at p7
    refine A.skip (tr (A.g [.p, .p] [5, 6, 48] [(3, vS an ((sfi x2.kb (knR l k) j).1) cn)] ?_))
    refine A.bn (tr (A.gk [.w ((k : Int) + 1), .p] [] [(12, i_ ((k : Int) + 1))] [] (fun κ => (IntKind.i64.wrap ((k : Int) + 1) = ((k : Int) + 1)) ∧ True) ⟨(wrap_i64 (e := (k : Int) + 1) (by constructor <;> omega)), trivial⟩ ?_))
    refine A.tn (?_)
    refine A.items [sU an ((sfi x2.kb (knR l k) j).1) cn, blk b3 (encCv x2) 43] (.cons _ (.cons_cons _ (.cons_cons _ (List.Sublist.slnil)))) ?_
    refine A.setH [sU an (knR l (k + 1)) cn, blk b3 (encCv x2) 43] (cc (slC (by (rw [knR_succ (by assumption), if_neg (by omega)]; (have hj2 : j = (knR l k).length := by omega); subst hj2; unfold insI; simp_all; done) : (sfi x2.kb (knR l k) j).1 = (knR l (k + 1)))) rfl) ?_
    refine A.sv 3 (vS an (knR l (k + 1)) cn) (cgL (by (rw [knR_succ (by assumption), if_neg (by omega)]; (have hj2 : j = (knR l k).length := by omega); subst hj2; unfold insI; simp_all; done))) ?_
    refine A.next (k + 1, an, cn) (by omega) (by (simp; omega)) ?_
    exact A.hK [0]
  have p1 := of_decide_eq_false e1
  refine A.exit (A.te (A.te (A.bh (tsr (A.g [.p, .p] [10, 11, 12, 3, 13] [(2, vS ao (knR l k) co)] ?_)))))
  refine A.tn (A.ret (A.setH [sU ao (knR l l.length) co] (cc (slC (by (rw [show k = l.length by omega]) : (knR l k) = (knR l l.length))) rfl) ?_))
  refine A.pK [0] [vS ao (knR l k) co] (ao, co) ?_ ?_
  · show ((vS ao (knR l k) co) : Value) = (vS ao (knR l l.length) co)
    rw [show k = l.length by omega]
  trivial
end Go.Proofs.Ytinnnoimmioaiaa
