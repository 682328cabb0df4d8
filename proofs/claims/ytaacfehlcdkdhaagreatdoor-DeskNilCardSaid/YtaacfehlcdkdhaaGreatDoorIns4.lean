/- What the functions of this layer do, proved operation by operation, for all arguments, under the conditions that each theorem states. -/
import Derived.Test.YtaacfehlcdkdhaaGreatDoorProg
import Derived.Test.YtaacfehlcdkdhaaGreatDoorIns3
namespace Go.Proofs.YtaacfehlcdkdhaaGreatDoor
open Go V
set_option linter.unusedVariables false
set_option linter.unusedSimpArgs false
theorem cont_at {α : Type} [BEq α] [LawfulBEq α] {xs : List α} {k : Nat} {x v : α} (h : xs[k]? = some x) (hv : v = x) : xs.contains v = true := by
  rw [List.contains_iff_mem, hv]; exact List.mem_of_getElem? h
theorem cont_no {α : Type} [BEq α] [LawfulBEq α] {xs : List α} {v : α} {k : Nat} (h : ∀ x ∈ xs.take k, ¬ v = x) (hk : xs.length ≤ k) : xs.contains v = false := by
  rw [List.take_of_length_le hk] at h
  rw [Bool.eq_false_iff, Ne, List.contains_iff_mem]; exact fun hm => h v hm rfl
theorem no_step {α : Type} {xs : List α} {v x : α} {k : Nat} (h : ∀ x ∈ xs.take k, ¬ v = x) (hx : xs[k]? = some x) (hn : ¬ v = x) : ∀ x ∈ xs.take (k + 1), ¬ v = x := by
  rw [takeS hx]; intro y hy
  rcases List.mem_append.1 hy with hy | hy
  · exact h y hy
  · simp at hy; subst hy; exact hn
theorem wE_num {l : List UInt8} {k : Nat} (hk : k = 0 ∨ k = 1 ∨ k = 6 ∨ k = 7) : wE l k = numE ((words 32 l).getD k []) 9223372036854775807 := by
  unfold wE wdE; rw [if_neg (by omega), if_neg (by omega)]
theorem wE_cur {l : List UInt8} {k : Nat} (hk : k = 3 ∨ k = 4 ∨ k = 5) : wE l k = (pcP ((words 32 l).getD k [])).pz := by
  unfold wE wdE; rw [if_neg (by omega), if_pos (by omega)]
theorem wE_2 {l : List UInt8} (h : ¬ (words 32 l).getD 2 [] = [108, 101, 97, 102] → (words 32 l).getD 2 [] = [105, 110, 110, 101, 114]) : wE l 2 = 0 := by
  unfold wE wdE; rw [if_pos (show ((2 : Nat) : Int) = 2 from rfl), if_pos]
  by_cases h1 : (words 32 l).getD 2 [] = [108, 101, 97, 102]
  · exact .inl h1
  · exact .inr (h h1)
theorem wE_2n {l : List UInt8} (h : ¬ (words 32 l).getD 2 [] = [108, 101, 97, 102] ∧ ¬ (words 32 l).getD 2 [] = [105, 110, 110, 101, 114]) : wE l 2 = 4 := by
  unfold wE wdE; rw [if_pos (show ((2 : Nat) : Int) = 2 from rfl), if_neg]; rintro (h1 | h1)
  · exact h.1 h1
  · exact h.2 h1
theorem cp_long {l : List UInt8} (h : 400 < l.length) : cpE l = 2 ∧ cpV l = ck0 := by
  have : cpE l = 2 := by unfold cpE; rw [if_pos h]
  exact ⟨this, by unfold cpV; rw [this, if_neg (by decide)]⟩
section
variable {l : List UInt8} (h : ¬ 400 < l.length)
include h
theorem cp_whole (hw : wholeB l = false) : cpE l = 4 ∧ cpV l = ck0 := by
  have : cpE l = 4 := by unfold cpE; rw [if_neg h, if_pos hw]
  exact ⟨this, by unfold cpV; rw [this, if_neg (by decide)]⟩
variable (hw : wholeB l = true)
include hw
theorem cp_err {k : Nat} (hk : k < 8) (hz : ∀ j, j < k → wE l j = 0) (hf : ¬ wE l k = 0) : cpE l = wE l k ∧ cpV l = ck0 := by
  have : cpE l = wE l k := by unfold cpE; rw [if_neg h, if_neg (by simp [hw]), fst8_at hk hz hf]
  exact ⟨this, by unfold cpV; rw [this, if_neg hf]⟩
theorem cp_ok (hz : ∀ j, j < 8 → wE l j = 0) : cpE l = 0 ∧ cpV l = cpX l := by
  have : cpE l = 0 := by unfold cpE; rw [if_neg h, if_neg (by simp [hw]), fst8_0 hz]
  exact ⟨this, by unfold cpV; rw [this, if_pos rfl]⟩
end

end Go.Proofs.YtaacfehlcdkdhaaGreatDoor
