/- What the functions of this layer do, proved operation by operation, for all arguments, under the conditions that each theorem states. -/
import Derived.Test.YtkfmboicmdnjpaaProg
import Derived.Test.YtkfmboicmdnjpaaMatch7
namespace Go.Proofs.Ytkfmboicmdnjpaa
open Go V
set_option linter.unusedVariables false
set_option linter.unusedSimpArgs false
theorem maskL_at (l : List Rl) : ∀ (n j : Nat) (x : Int), (maskL l n)[j]? = some x → ∃ (i : Nat) (r : Rl), x = (i : Int) ∧ i < n ∧ l[i]? = some r ∧ r.wh = false
  | 0, j, x, h => by simp [maskL] at h
  | n + 1, j, x, h => by
    rw [maskL] at h
    have up : (maskL l n)[j]? = some x → ∃ (i : Nat) (r : Rl), x = (i : Int) ∧ i < n + 1 ∧ l[i]? = some r ∧ r.wh = false := fun h => by
      obtain ⟨i, r, h1, h2, h3⟩ := maskL_at l n j x h; exact ⟨i, r, h1, by omega, h3⟩
    cases hl : l[n]? with
    | none => rw [hl] at h; exact up h
    | some r =>
      rw [hl] at h; simp only at h
      cases hw : r.wh with
      | true => rw [hw] at h; exact up h
      | false =>
        rw [hw] at h; simp only [Bool.false_eq_true, if_false, List.getElem?_append] at h
        split at h
        · exact up h
        · simp only [List.getElem?_cons, List.getElem?_nil] at h
          split at h
          · simp at h; exact ⟨n, r, h.symm, by omega, hl, hw⟩
          · simp at h
theorem mget_put {κ β : Type} [DecidableEq κ] : ∀ (kv : List (κ × β)) (k h : κ) (v : β), mget (mput kv k v) h = if k = h then some v else mget kv h
  | [], k, h, v => by simp only [mput, mget]
  | p :: kv, k, h, v => by
    simp only [mput]
    by_cases e : p.1 = k
    · rw [if_pos e]; simp only [mget]; subst e; by_cases e2 : p.1 = h <;> simp [e2]
    · rw [if_neg e]; simp only [mget]; rw [mget_put kv k h v]
      by_cases e2 : p.1 = h
      · rw [if_pos e2, if_neg (by intro h3; exact e (e2.trans h3.symm)), if_pos e2]
      · rw [if_neg e2, if_neg e2]
theorem exL_law (l : List Rl) (h : Hd) : ∀ n, match mget (exL l n) h with
    | some v => ∃ (i : Nat) (r : Rl), v = (i : Int) ∧ i < n ∧ l[i]? = some r ∧ r.wh = true ∧ r.want = h ∧ ∀ (j : Nat) s, j < i → l[j]? = some s → s.wh = true → s.want ≠ h
    | none => ∀ (j : Nat) s, j < n → l[j]? = some s → s.wh = true → s.want ≠ h
  | 0 => by simp only [exL, mget]; intro j s hj; omega
  | n + 1 => by
    have ih := exL_law l h n
    have keep : (match mget (exL l n) h with
        | some v => ∃ (i : Nat) (r : Rl), v = (i : Int) ∧ i < n ∧ l[i]? = some r ∧ r.wh = true ∧ r.want = h ∧ ∀ (j : Nat) s, j < i → l[j]? = some s → s.wh = true → s.want ≠ h
        | none => ∀ (j : Nat) s, j < n → l[j]? = some s → s.wh = true → s.want ≠ h) → (mget (exL l n) h = none → ∀ s, l[n]? = some s → s.wh = true → s.want ≠ h) → (match mget (exL l n) h with
        | some v => ∃ (i : Nat) (r : Rl), v = (i : Int) ∧ i < n + 1 ∧ l[i]? = some r ∧ r.wh = true ∧ r.want = h ∧ ∀ (j : Nat) s, j < i → l[j]? = some s → s.wh = true → s.want ≠ h
        | none => ∀ (j : Nat) s, j < n + 1 → l[j]? = some s → s.wh = true → s.want ≠ h) := by
      intro a b
      cases hm : mget (exL l n) h with
      | some v => rw [hm] at a; obtain ⟨i, r, h1, h2, h3⟩ := a; exact ⟨i, r, h1, by omega, h3⟩
      | none =>
        rw [hm] at a; intro j s hj hs hw
        rcases Nat.lt_or_ge j n with g | g
        · exact a j s g hs hw
        · have : j = n := by omega
          subst this; exact b hm s hs hw
    rw [exL]
    cases hl : l[n]? with
    | none => exact keep ih (by intro _ s hs; rw [hl] at hs; cases hs)
    | some r =>
      simp only []
      by_cases hc : (r.wh && !(mget (exL l n) r.want).isSome) = true
      · rw [if_pos hc]
        simp at hc
        rw [mget_put]
        by_cases e : r.want = h
        · rw [if_pos e]; refine ⟨n, r, rfl, by omega, hl, hc.1, e, fun j s hj hs hw => ?_⟩
          rw [e] at hc; rw [hc.2] at ih; exact ih j s hj hs hw
        · rw [if_neg e]; exact keep ih (by intro _ s hs hw; rw [hl] at hs; cases hs; exact e)
      · rw [if_neg hc]
        refine keep ih (by intro hm s hs hw e; rw [hl] at hs; cases hs; apply hc; rw [e, hm, hw]; rfl)

end Go.Proofs.Ytkfmboicmdnjpaa
