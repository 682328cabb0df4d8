/- What the functions of this layer do, proved operation by operation, for all arguments, under the conditions that each theorem states. -/
import Derived.Test.YtlhchmmjkokamaaProg
import Derived.Test.YtlhchmmjkokamaaStat5
namespace Go.Proofs.Ytlhchmmjkokamaa
open Go V
set_option linter.unusedVariables false
set_option linter.unusedSimpArgs false
def w64 (x : Int) : Int := IntKind.u64.wrap x
theorem w64_eq (x : Int) : IntKind.u64.wrap x = x % 18446744073709551616 := by
  simp [IntKind.wrap, IntKind.bits, IntKind.signed]
/-- a class's packets that are there, and those that are gone -/
def hereL (c : Int) (w : List Pk) : List Pk := w.filter fun p => decide (p.pc = c) && !p.pg
def goneF (c : Int) (tt : Bool) (w : List Pk) : List Pk := w.filter fun p => !(!p.pg || (!tt && (p.pc != c)))
/-- the counters of packets that are gone, in any order -/
def sumC (l : List Pk) : SR := l.foldl addC sr0
theorem cntR_pre (a : Int) (tt : Bool) (l m : List Pk) : ∀ k, k ≤ l.length → cntR a tt (l ++ m) k = cntR a tt l k
  | 0, _ => rfl
  | k + 1, h => by
    have e : (l ++ m)[k]? = l[k]? := List.getElem?_append_left (by omega)
    rw [cntR, cntR, e, cntR_pre a tt l m k (by omega)]
theorem cntR_eq (a : Int) (tt : Bool) (l : List Pk) : cntR a tt l l.length = sumC (goneF a tt l) := by
  suffices h : ∀ k, k ≤ l.length → cntR a tt l k = sumC (goneF a tt (l.take k)) by have := h l.length (Nat.le_refl _); rwa [List.take_length] at this
  intro k
  induction k with
  | zero => intro _; rfl
  | succ k ih =>
    intro hk
    have hx : l[k]? = some (l[k]'(by omega)) := List.getElem?_eq_getElem (by omega)
    generalize l[k]'(by omega) = x at hx
    have e : cntR a tt l (k + 1) = if (!x.pg || (!tt && (x.pc != a))) = true then cntR a tt l k else addC (cntR a tt l k) x := by rw [cntR, hx]
    rw [e, ih (by omega), take_snoc hx]
    have hf : List.filter (fun p : Pk => !(!p.pg || (!tt && (p.pc != a)))) [x] = if (!x.pg || (!tt && (x.pc != a))) = true then [] else [x] := by
      simp only [List.filter_cons, List.filter_nil]; cases (!x.pg || (!tt && (x.pc != a))) <;> rfl
    unfold goneF sumC
    rw [List.filter_append, List.foldl_append, hf]
    by_cases hc : (!x.pg || (!tt && (x.pc != a))) = true
    · rw [if_pos hc, if_pos hc]; rfl
    · rw [if_neg hc, if_neg hc]; rfl
theorem perm_sum {a b : List Int} (h : a.Perm b) : a.sum = b.sum := by
  induction h with
  | nil => rfl
  | cons x _ ih => simp [ih]
  | swap x y l => simp; omega
  | trans _ _ h1 h2 => rw [h1, h2]
theorem w_add (a b : Int) : IntKind.u64.wrap (IntKind.u64.wrap a + b) = IntKind.u64.wrap (a + b) := by rw [w64_eq, w64_eq, w64_eq, Int.emod_add_emod]
theorem w_add2 (a b : Int) : IntKind.u64.wrap (a + IntKind.u64.wrap b) = IntKind.u64.wrap (a + b) := by rw [w64_eq, w64_eq, w64_eq, Int.add_emod_emod]
theorem w_sub (a b : Int) : IntKind.u64.wrap (IntKind.u64.wrap a - b) = IntKind.u64.wrap (a - b) := by rw [w64_eq, w64_eq, w64_eq, Int.emod_sub_emod]
theorem w_w (a : Int) : IntKind.u64.wrap (IntKind.u64.wrap a) = IntKind.u64.wrap a := by rw [w64_eq, w64_eq, Int.emod_emod_of_dvd _ (Int.dvd_refl _)]
/-- the same, written out -/
structure SumIs (l : List Pk) (r : SR) : Prop where
  sp : r.sp = IntKind.u64.wrap (l.length : Int)
  sb : r.sb = IntKind.u64.wrap (l.map (·.pl)).sum
  sr : r.sr = IntKind.u64.wrap ((l.filter (·.pr)).length : Int)
  sw : r.sw = IntKind.u64.wrap (l.map fun p => p.pd - p.pa).sum
  sg : (∀ p ∈ l, IntKind.u64.wrap (p.pd - p.pa) ≤ r.sg) ∧ 0 ≤ r.sg ∧ (r.sg = 0 ∨ ∃ p ∈ l, r.sg = IntKind.u64.wrap (p.pd - p.pa))
theorem sumIs_nil : SumIs [] sr0 := ⟨by decide, by decide, by decide, by decide, by simp, by decide, .inl rfl⟩
theorem sumIs_snoc {l : List Pk} {r : SR} (h : SumIs l r) (p : Pk) : SumIs (l ++ [p]) (addC r p) := by
  obtain ⟨h1, h2, h3, h4, h5, h6, h7⟩ := h
  refine ⟨?_, ?_, ?_, ?_, ?_, ?_, ?_⟩
  · simp only [addC]; rw [h1, w_add]; simp
  · simp only [addC]; rw [h2, w_add, w_add2]; simp [List.sum_append]
  · simp only [addC]; split
    · rename_i hp; rw [h3, w_add]; simp [List.filter_append, hp]
    · rename_i hp; rw [h3]; simp [List.filter_append, hp]
  · simp only [addC]; rw [h4, w_add, w_sub]; simp [List.sum_append]; congr 1; omega
  · intro q hq; simp only [addC]
    rcases List.mem_append.1 hq with hq | hq
    · have := h5 q hq; split <;> omega
    · simp at hq; subst hq; split <;> omega
  · simp only [addC]; split
    · rw [w64_eq]; exact Int.emod_nonneg _ (by decide)
    · exact h6
  · simp only [addC]; split
    · exact .inr ⟨p, by simp, rfl⟩
    · rcases h7 with h7 | ⟨q, hq, e⟩
      · exact .inl h7
      · exact .inr ⟨q, by simp [hq], e⟩
theorem sumIs_C : ∀ (l : List Pk), SumIs l (sumC l) := by
  have gen : ∀ (l m : List Pk) (r : SR), SumIs m r → SumIs (m ++ l) (l.foldl addC r) := by
    intro l; induction l with
    | nil => intro m r h; simpa using h
    | cons p l ih => intro m r h; have := ih (m ++ [p]) (addC r p) (sumIs_snoc h p); simpa using this
  intro l; have := gen l [] sr0 sumIs_nil; rw [List.nil_append] at this; exact this
theorem sr_ext {a b : SR} (h1 : a.sp = b.sp) (h2 : a.sb = b.sb) (h3 : a.sr = b.sr) (h4 : a.sw = b.sw) (h5 : a.sg = b.sg) : a = b := by cases a; cases b; simp_all
/-- counters of the same packets are the same -/
theorem sumIs_uniq {l m : List Pk} {a b : SR} (ha : SumIs l a) (hb : SumIs m b) (hp : l.Perm m) : a = b := by
  refine sr_ext ?_ ?_ ?_ ?_ ?_
  · rw [ha.sp, hb.sp, hp.length_eq]
  · rw [ha.sb, hb.sb, perm_sum (hp.map _)]
  · rw [ha.sr, hb.sr, (hp.filter _).length_eq]
  · rw [ha.sw, hb.sw, perm_sum (hp.map _)]
  · obtain ⟨a1, a2, a3⟩ := ha.sg; obtain ⟨b1, b2, b3⟩ := hb.sg
    rcases a3 with a3 | ⟨p, hp1, a3⟩ <;> rcases b3 with b3 | ⟨q, hq1, b3⟩
    · rw [a3, b3]
    · have := a1 q (hp.mem_iff.2 hq1); omega
    · have := b1 p (hp.mem_iff.1 hp1); omega
    · have := a1 q (hp.mem_iff.2 hq1); have := b1 p (hp.mem_iff.1 hp1); omega
theorem sumIs_append {l m : List Pk} {a b : SR} (ha : SumIs l a) (hb : SumIs m b) : SumIs (l ++ m) (addT a b) := by
  obtain ⟨h1, h2, h3, h4, h5, h6, h7⟩ := ha
  obtain ⟨k1, k2, k3, k4, k5, k6, k7⟩ := hb
  refine ⟨?_, ?_, ?_, ?_, ?_, ?_, ?_⟩
  · simp only [addT]; rw [h1, k1, w_add, w_add2]; simp
  · simp only [addT]; rw [h2, k2, w_add, w_add2]; simp [List.sum_append]
  · simp only [addT]; rw [h3, k3, w_add, w_add2]; simp [List.filter_append]
  · simp only [addT]; rw [h4, k4, w_add, w_add2]; simp [List.sum_append]
  · intro q hq; simp only [addT]; rw [imax_eq]
    rcases List.mem_append.1 hq with hq | hq
    · have := h5 q hq; omega
    · have := k5 q hq; omega
  · simp only [addT]; rw [imax_eq]; omega
  · simp only [addT]; rw [imax_eq]
    rcases Int.le_total a.sg b.sg with g | g
    · rw [Int.max_eq_right g]; rcases k7 with k7 | ⟨q, hq, e⟩
      · exact .inl k7
      · exact .inr ⟨q, by simp [hq], e⟩
    · rw [Int.max_eq_left g]; rcases h7 with h7 | ⟨q, hq, e⟩
      · exact .inl h7
      · exact .inr ⟨q, by simp [hq], e⟩
/-- what the program counts, of packets that have gone one by one -/
theorem addR_sum {l : List Pk} {r : SR} (h : SumIs l r) (p : Pk) : SumIs (l ++ [p]) (addR r p.pa p.pd p.pl p.pr) := by
  obtain ⟨h1, h2, h3, h4, h5, h6, h7⟩ := h
  refine ⟨?_, ?_, ?_, ?_, ?_, ?_, ?_⟩
  · simp only [addR]; rw [h1, w_add]; simp
  · simp only [addR]; rw [h2, w_add, w_add2]; simp [List.sum_append]
  · simp only [addR]; split
    · rename_i hp; rw [h3, w_add]; simp [List.filter_append, hp]
    · rename_i hp; rw [h3]; simp [List.filter_append, hp]
  · simp only [addR]; rw [h4, w_add, w_add2]; simp [List.sum_append]
  · intro q hq; simp only [addR]; rw [imax_eq]
    rcases List.mem_append.1 hq with hq | hq
    · have := h5 q hq; omega
    · simp at hq; subst hq; omega
  · simp only [addR]; rw [imax_eq]; omega
  · simp only [addR]; rw [imax_eq]
    rcases Int.le_total r.sg (IntKind.u64.wrap (p.pd - p.pa)) with g | g
    · rw [Int.max_eq_right g]; exact .inr ⟨p, by simp, rfl⟩
    · rw [Int.max_eq_left g]; rcases h7 with h7 | ⟨q, hq, e⟩
      · exact .inl h7
      · exact .inr ⟨q, by simp [hq], e⟩

end Go.Proofs.Ytlhchmmjkokamaa
