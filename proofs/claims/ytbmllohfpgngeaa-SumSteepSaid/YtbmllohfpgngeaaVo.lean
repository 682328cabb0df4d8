/- My own verifier: a slice of ints of the call's own, sorted by the library. Generic: nothing of the dump. -/
import Derived.Test.YtbmllohfpgngeaaVm
import Derived.Sort.OwnSortedInts
namespace Go.Proofs.Ytbmllohfpgngeaa.V
set_option linter.unusedVariables false
set_option linter.unusedSimpArgs false
open Go Go.Sort
variable {enc : Int → List Value} {t : TypeId}
theorem flat_ints (he : ∀ x, enc x = [Value.int .i64 x]) : ∀ l : List Int, flat enc l = l.map (Value.int .i64)
  | [] => rfl
  | y :: l => by have := flat_ints he l; simp only [flat, List.flatMap_cons, he, List.map_cons] at this ⊢; rw [this]; rfl
theorem sl_Holds {g off c : Nat} {l : List Int} {w : World} (he : ∀ x, enc x = [Value.int .i64 x]) (h : (sl (some ⟨g, off, none⟩) l.length c t 1 (flat enc l)).holds w) : Holds (Value.int .i64) w g off l.toArray ∧ g < w.heap.size := by
  obtain ⟨h1, h2, h3, ⟨h4, _⟩ | ⟨g', off', cur, e, hg, hsz, hcs⟩⟩ := h
  · cases h4
  cases e
  refine ⟨fun j hj => ?_, (Array.getElem?_eq_some_iff.1 hg).1⟩
  have hj' : j < l.length := by simpa using hj
  refine ⟨?_, by simp [World.frozen?, hg]⟩
  have e1 : ((cur.toList.drop off).take (l.length * 1))[j]? = (l.map (Value.int .i64))[j]? := by rw [hcs, flat_ints he]
  rw [Nat.mul_one, List.getElem?_take_of_lt hj', List.getElem?_drop] at e1
  simp only [World.cell?, hg, Option.isSome_none, Bool.false_eq_true, if_false]
  rw [← Array.getElem?_toList, e1]
  simp [hj']
theorem sl_sorted {g off c k : Nat} {l ts : List Int} {os : Array Obj} {w : World} (he : ∀ x, enc x = [Value.int .i64 x]) (hl : ts.length = l.length) (h : (sl (some ⟨g, off, none⟩) l.length c t 1 (flat enc l)).holds w) :
    Turn [sl (some ⟨g, off, none⟩) l.length c t 1 (flat enc l)] [sl (some ⟨g, off, none⟩) ts.length c t 1 (flat enc ts)] w (grow (putRow (Value.int .i64) (Sort.ahead w k) g off ts.toArray) os) := by
  obtain ⟨h1, h2, h3, ⟨h4, _⟩ | ⟨g', off', cur, e, hg, hsz, hcs⟩⟩ := h
  · cases h4
  cases e
  have hgs : g < w.heap.size := (Array.getElem?_eq_some_iff.1 hg).1
  have hgn : (grow (putRow (Value.int .i64) (Sort.ahead w k) g off ts.toArray) os).heap[g]? = some (.cells (putCells (Value.int .i64) off ts.toArray cur) t (0, 0)) := by
    rw [heap_grow_old _ _ (by simpa [putRow, mapBlock, Sort.ahead] using hgs)]
    simp [putRow, mapBlock, Sort.ahead, Array.getElem?_modify, hg, onCells]
  refine ⟨⟨rfl, rfl, rfl, by simp [grow, putRow, mapBlock, Sort.ahead], fun q hq hS => ?_⟩, ?_, by simp [feet, sl, slFoot], by simp [feet, sl, slFoot]⟩
  · have hqg : g ≠ q := fun e => hS (by rw [← e]; simp [feet, sl, slFoot])
    rw [heap_grow_old _ _ (by simpa [putRow, mapBlock, Sort.ahead] using hq)]
    simp [putRow, mapBlock, Sort.ahead, Array.getElem?_modify, hqg]
  · intro it hi; simp only [List.mem_singleton] at hi; subst hi
    refine ⟨by rw [flat_ints he]; simp, by omega, h3, .inr ⟨g, off, _, rfl, hgn, by simpa [putCells] using hsz, ?_⟩⟩
    rw [flat_ints he, Nat.mul_one]
    apply List.ext_getElem?
    intro j
    by_cases hj : j < ts.length
    · rw [List.getElem?_take_of_lt hj, List.getElem?_drop, Array.getElem?_toList]
      have : off + j < cur.size := by omega
      simp [putCells, this, hj]
    · rw [List.getElem?_eq_none (by simp; omega), List.getElem?_eq_none (by simp; omega)]
end Go.Proofs.Ytbmllohfpgngeaa.V
