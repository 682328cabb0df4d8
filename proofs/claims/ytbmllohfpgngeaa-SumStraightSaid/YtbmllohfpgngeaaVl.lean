/- My own verifier: slices of numbers of the call's own beside the kit's rows of numbers. Generic: nothing of the dump. -/
import Derived.Test.YtbmllohfpgngeaaVo
import Derived.Test.YtbmllohfpgngeaaVj
namespace Go.Proofs.Ytbmllohfpgngeaa.V
set_option linter.unusedVariables false
set_option linter.unusedSimpArgs false
open Go Go.Sort
variable {enc : Int → List Value} {t : TypeId} {k : IntKind}
theorem flat_nums (he : ∀ x, enc x = [Value.int k x]) : ∀ l : List Int, flat enc l = l.map (Value.int k)
  | [] => rfl
  | y :: l => by have := flat_nums he l; simp only [flat, List.flatMap_cons, he, List.map_cons] at this ⊢; rw [this]; rfl
theorem sl_HoldsK {g off c : Nat} {l : List Int} {w : World} (he : ∀ x, enc x = [Value.int k x]) (h : (sl (some ⟨g, off, none⟩) l.length c t 1 (flat enc l)).holds w) : Holds (Value.int k) w g off l.toArray ∧ g < w.heap.size := by
  obtain ⟨h1, h2, h3, ⟨h4, _⟩ | ⟨g', off', cur, e, hg, hsz, hcs⟩⟩ := h
  · cases h4
  cases e
  refine ⟨fun j hj => ?_, (Array.getElem?_eq_some_iff.1 hg).1⟩
  have hj' : j < l.length := by simpa using hj
  refine ⟨?_, by simp [World.frozen?, hg]⟩
  have e1 : ((cur.toList.drop off).take (l.length * 1))[j]? = (l.map (Value.int k))[j]? := by rw [hcs, flat_nums he]
  rw [Nat.mul_one, List.getElem?_take_of_lt hj', List.getElem?_drop] at e1
  simp only [World.cell?, hg, Option.isSome_none, Bool.false_eq_true, if_false]
  rw [← Array.getElem?_toList, e1]
  simp [hj']
/-- the row is put anew, and the slice cut -/
theorem sl_row {g off c q : Nat} {l ts rest : List Int} {w : World} (he : ∀ x, enc x = [Value.int k x]) (hl : ts.length + rest.length = l.length) (h : (sl (some ⟨g, off, none⟩) l.length c t 1 (flat enc l)).holds w) :
    Turn [sl (some ⟨g, off, none⟩) l.length c t 1 (flat enc l)] [sl (some ⟨g, off, none⟩) ts.length c t 1 (flat enc ts)] w (putRow (Value.int k) (Sort.ahead w q) g off (ts ++ rest).toArray) := by
  obtain ⟨h1, h2, h3, ⟨h4, _⟩ | ⟨g', off', cur, e, hg, hsz, hcs⟩⟩ := h
  · cases h4
  cases e
  have hgs : g < w.heap.size := (Array.getElem?_eq_some_iff.1 hg).1
  have hgn : (putRow (Value.int k) (Sort.ahead w q) g off (ts ++ rest).toArray).heap[g]? = some (.cells (putCells (Value.int k) off (ts ++ rest).toArray cur) t (0, 0)) := by
    simp [putRow, mapBlock, Sort.ahead, Array.getElem?_modify, hg, onCells]
  refine ⟨⟨rfl, rfl, rfl, by simp [putRow, mapBlock, Sort.ahead], fun p hp hS => ?_⟩, ?_, by simp [feet, sl, slFoot], by simp [feet, sl, slFoot]⟩
  · have hqg : g ≠ p := fun e => hS (by rw [← e]; simp [feet, sl, slFoot])
    simp [putRow, mapBlock, Sort.ahead, Array.getElem?_modify, hqg]
  · intro it hi; simp only [List.mem_singleton] at hi; subst hi
    refine ⟨by rw [flat_nums he]; simp, by omega, h3, .inr ⟨g, off, _, rfl, hgn, by simpa [putCells] using hsz, ?_⟩⟩
    rw [flat_nums he, Nat.mul_one]
    apply List.ext_getElem?
    intro j
    by_cases hj : j < ts.length
    · rw [List.getElem?_take_of_lt hj, List.getElem?_drop, Array.getElem?_toList]
      have : off + j < cur.size := by omega
      have hj2 : j < ts.length + rest.length := by omega
      simp [putCells, this, hj, hj2, List.getElem_append_left]
    · rw [List.getElem?_eq_none (by simp; omega), List.getElem?_eq_none (by simp; omega)]
end Go.Proofs.Ytbmllohfpgngeaa.V
