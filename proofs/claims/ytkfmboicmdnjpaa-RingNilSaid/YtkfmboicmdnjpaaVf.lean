/- My own verifier: what came in, as lists. Generic: nothing of the dump. -/
import Derived.Test.YtkfmboicmdnjpaaVe
namespace Go.Proofs.Ytkfmboicmdnjpaa.V
open Go
theorem arr_nil (w : World) (A : Option Addr) : arrAt w A [] := by intro j u hu; simp at hu
theorem arr_ints {k : IntKind} {w : World} {x : Addr} {zs : List Int} (len : Nat) (hcell : ∀ i, i < zs.length → w.cell? (x.add i) = some (.int k (zs.getD i 0))) :
    arrAt w (some x) (flat (fun z => [.int k z]) (zs.take len)) := by
  intro j u hu
  have he : flat (fun z => [Value.int k z]) (zs.take len) = (zs.take len).map (Value.int k) := by
    simp only [flat]; induction zs.take len <;> simp_all
  rw [he, List.getElem?_map] at hu
  obtain ⟨z, hz, rfl⟩ := Option.map_eq_some_iff.1 hu
  rw [List.getElem?_take] at hz
  split at hz
  · have hlt := (List.getElem?_eq_some_iff.1 hz).1
    refine ⟨rfl, ?_⟩
    simp only [at0, Option.getD_some]
    rw [hcell j hlt]
    simp [List.getD, hz]
  · cases hz
theorem arr_strs {w : World} {x : Addr} {ss : List ByteArray} (len : Nat) (hcell : ∀ i, i < ss.length → w.cell? (x.add i) = some (.string (ss.getD i ByteArray.empty))) :
    arrAt w (some x) (flat (fun z => [.string z]) (ss.take len)) := by
  intro j u hu
  have he : flat (fun z => [Value.string z]) (ss.take len) = (ss.take len).map Value.string := by
    simp only [flat]; induction ss.take len <;> simp_all
  rw [he, List.getElem?_map] at hu
  obtain ⟨z, hz, rfl⟩ := Option.map_eq_some_iff.1 hu
  rw [List.getElem?_take] at hz
  split at hz
  · have hlt := (List.getElem?_eq_some_iff.1 hz).1
    refine ⟨rfl, ?_⟩
    simp only [at0, Option.getD_some]
    rw [hcell j hlt]
    simp [List.getD, hz]
  · cases hz
end Go.Proofs.Ytkfmboicmdnjpaa.V
