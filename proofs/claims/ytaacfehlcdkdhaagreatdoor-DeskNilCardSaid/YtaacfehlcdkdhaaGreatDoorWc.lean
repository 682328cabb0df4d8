/- My own verifier: Go's strings.Join and slices.Delete of texts, over the shelf's contracts, at slices of the call's own. Generic: nothing of the dump. -/
import Derived.Test.YtaacfehlcdkdhaaGreatDoorWb
import Derived.Shelf.Strings.OnBuilder
import Derived.Shelf.Slices.Delete
namespace Go.Proofs.YtaacfehlcdkdhaaGreatDoor.V
set_option linter.unusedVariables false
set_option linter.unusedSimpArgs false
open Go Go.Sort Go.Shelf Go.RowKit Go.Proofs
variable {enc : List UInt8 → List Value} {t : TypeId}
theorem sl_cells {g off c : Nat} {l : List (List UInt8)} {w : World} (he : ∀ x, enc x = [.string (bs x)]) (h : (sl (some ⟨g, off, none⟩) l.length c t 1 (flat enc l)).holds w) :
    (∀ (j : Nat) x, l[j]? = some x → w.cell? ⟨g, off + j, none⟩ = some (.string (bs x)) ∧ w.frozen? ⟨g, off + j, none⟩ = false) ∧ g < w.heap.size ∧ l.length ≤ c ∧ c ≤ maxLen := by
  obtain ⟨h1, h2, h3, ⟨h4, _⟩ | ⟨g', off', cur, e, hg, hsz, hcs⟩⟩ := h
  · cases h4
  cases e
  refine ⟨fun j x hx => ?_, (Array.getElem?_eq_some_iff.1 hg).1, h2, h3⟩
  have hj' : j < l.length := (List.getElem?_eq_some_iff.1 hx).1
  refine ⟨?_, by simp [World.frozen?, hg]⟩
  have e1 : ((cur.toList.drop off).take (l.length * 1))[j]? = (l.map fun x => Value.string (bs x))[j]? := by rw [hcs, flat_str he]
  rw [Nat.mul_one, List.getElem?_take_of_lt hj', List.getElem?_drop] at e1
  simp only [World.cell?, hg, Option.isSome_none, Bool.false_eq_true, if_false]
  rw [← Array.getElem?_toList, e1]
  simp [hx]
section
variable {P : Program} {ρ : Ren}
theorem bs_map (xs : List (List UInt8)) : (xs.map bs).map (fun s => s.data.toList) = xs := by rw [List.map_map]; exact (List.map_congr_left fun _ _ => rfl).trans (List.map_id' _)
/-- strings.Join of a slice of the call's own -/
theorem join_qt (L : Lays.n156 P ρ) (X : Builder.Extra P ρ) (he : ∀ x, enc x = [.string (bs x)]) {A : Option Addr} {c : Nat} (xs : List (List UInt8)) (sp : List UInt8) (w : World) (h : (sl A xs.length c t 1 (flat enc xs)).holds w)
    (hn : xs.length ≤ 1000000) (hl : (Lib.join xs sp).length ≤ 140737488355328) :
    Calls P (ρ.f 156) #[.slice A xs.length c, .string (bs sp)] w fun e w' => e = .returned (.string (bs (Lib.join xs sp))) ∧ Fr [] w w' := by
  rcases h0 : xs with _ | ⟨x, r⟩
  · exact (Any.strings_Join_none L X A c (bs sp) w).mono fun e w' ⟨h1, h2⟩ => ⟨h1, h2 ▸ Fr.refl _ _⟩
  · rw [← h0]
    obtain ⟨g, off, rfl⟩ : ∃ g off, A = some ⟨g, off, none⟩ := by
      obtain ⟨h1, h2, h3, ⟨h4, h5⟩ | ⟨g', off', cur, e, _⟩⟩ := h
      · rw [h0] at h2; simp at h2; omega
      · exact ⟨g', off', e⟩
    obtain ⟨h1, h2, h3, h4⟩ := sl_cells he h
    have hb := bs_map xs
    have := Any.strings_Join L X g off c (xs.map bs) (bs sp) w (fun j x hx => by
      rw [List.getElem?_map] at hx
      obtain ⟨y, hy, rfl⟩ := Option.map_eq_some_iff.1 hx
      exact (h1 j y hy).1) h2 (by simp; omega) (by simpa using h3) (by rw [hb]; exact hl)
    rw [hb, List.length_map] at this
    exact this.mono fun e w' ⟨h1, h2⟩ => ⟨h1, Fr.of_below h2⟩
/-- slices.Delete of a slice of texts of the call's own -/
theorem delete_turn (L : Lays2.n24 P ρ) (he : ∀ x, enc x = [.string (bs x)]) {A : Option Addr} {c : Nat} (xs : List (List UInt8)) (i j : Nat) (w : World) (h : (sl A xs.length c t 1 (flat enc xs)).holds w) (hij : i ≤ j) (hj : j ≤ xs.length) (h1 : 1 ≤ xs.length) :
    Calls P (ρ.f 24) #[.slice A xs.length c, .int .i64 i, .int .i64 j] w fun e w' => e = .returned (.slice A (xs.take i ++ xs.drop j).length c) ∧ Turn [sl A xs.length c t 1 (flat enc xs)] [sl A (xs.take i ++ xs.drop j).length c t 1 (flat enc (xs.take i ++ xs.drop j))] w w' := by
  obtain ⟨g, off, rfl⟩ : ∃ g off, A = some ⟨g, off, none⟩ := by
    obtain ⟨g1, g2, g3, ⟨g4, g5⟩ | ⟨g', off', cur, e, _⟩⟩ := h
    · omega
    · exact ⟨g', off', e⟩
  obtain ⟨q1, q2, q3, q4⟩ := sl_cells he h
  have hH : Holds encStr w g off xs.toArray := fun k hk => by
    have hk' : k < xs.length := by simpa using hk
    have := q1 k xs[k] (List.getElem?_eq_getElem hk')
    simpa [encStr, bs, getElem!_pos, hk'] using this
  have hlen : (xs.take i ++ xs.drop j).length = xs.length - (j - i) := by simp; omega
  refine (Any.slices_Delete_string L g off c i j xs w hH q3 (by unfold maxLen at q4; omega) hij hj).mono fun e w' ⟨r1, k, r2⟩ => ⟨by rw [r1, hlen], ?_⟩
  subst r2
  obtain ⟨g1, g2, g3, ⟨g4, _⟩ | ⟨g', off', cur, e', hg, hsz, hcs⟩⟩ := h
  · cases g4
  cases e'
  have hgn : (putRow encStr (Sort.ahead w k) g off (xs.take i ++ xs.drop j ++ List.replicate (j - i) []).toArray).heap[g]? = some (.cells (putCells encStr off (xs.take i ++ xs.drop j ++ List.replicate (j - i) []).toArray cur) t (0, 0)) := by
    simp [putRow, mapBlock, Sort.ahead, Array.getElem?_modify, hg, onCells]
  refine ⟨⟨rfl, rfl, rfl, by simp [putRow, mapBlock, Sort.ahead], fun q hq hS => ?_⟩, ?_, by simp [feet, sl, slFoot], by simp [feet, sl, slFoot]⟩
  · have hqg : g ≠ q := fun e => hS (by rw [← e]; simp [feet, sl, slFoot])
    simp [putRow, mapBlock, Sort.ahead, Array.getElem?_modify, hqg]
  · intro it hi; simp only [List.mem_singleton] at hi; subst hi
    refine ⟨by rw [flat_str he]; simp, by omega, q4, .inr ⟨g, off, _, rfl, hgn, by simpa [putCells] using hsz, ?_⟩⟩
    rw [flat_str he, Nat.mul_one]
    apply List.ext_getElem?
    intro m
    by_cases hm : m < (xs.take i ++ xs.drop j).length
    · rw [List.getElem?_take_of_lt hm, List.getElem?_drop, Array.getElem?_toList]
      have h6 : off + m < cur.size := by omega
      have h7 : m < (xs.take i ++ xs.drop j ++ List.replicate (j - i) []).length := by simp at hm ⊢; omega
      have h8 : (xs.take i ++ xs.drop j ++ List.replicate (j - i) ([] : List UInt8))[m]? = (xs.take i ++ xs.drop j)[m]? := List.getElem?_append_left hm
      rw [List.getElem?_map, List.getElem?_eq_getElem hm]
      rw [List.getElem?_eq_getElem hm, List.getElem?_eq_getElem h7] at h8
      have h9 := Option.some.inj h8
      have h10 : (xs.take i ++ xs.drop j ++ List.replicate (j - i) ([] : List UInt8)).toArray[m]! = (xs.take i ++ xs.drop j)[m] := by
        rw [getElem!_pos _ m (by simpa using h7)]; simpa using h9
      have h11 : off ≤ off + m ∧ off + m < off + (xs.take i ++ xs.drop j ++ List.replicate (j - i) ([] : List UInt8)).toArray.size := ⟨by omega, by simp only [List.size_toArray]; omega⟩
      unfold putCells
      rw [Array.getElem?_mapIdx, Array.getElem?_eq_getElem h6]
      simp only [Option.map_some, if_pos h11, Nat.add_sub_cancel_left, h10]
      rfl
    · rw [List.getElem?_eq_none (by simp at hm ⊢; omega), List.getElem?_eq_none (by simp at hm ⊢; omega)]
end
end Go.Proofs.YtaacfehlcdkdhaaGreatDoor.V
