/- My own verifier: parts of slices, 'x[:m]' and 'x[m:]'. Generic: nothing of the dump. -/
import Derived.Test.YtaacfehlcdkdhaaGreatDoorVm
namespace Go.Proofs.YtaacfehlcdkdhaaGreatDoor.V
set_option linter.unusedVariables false
set_option linter.unusedSimpArgs false
open Go
section
variable {P : Program} {n : Nat} {env : Env} {w0 : World} {S : List Nat} {H : List Item} {ops : Array Oper} {o : Oper} {α : Type}
def cutA (A : Option Addr) (c m sz : Nat) : Option Addr := if c = m then A else A.map (·.add (m * sz))
theorem qt_takeS {xs : List α} {A : Option Addr} {c : Nat} {x y : Operand} {t e : TypeId} {sz : Nat} (m : Nat) (ho : o.op = .slice t x none (some y) none) (hx : ev env x = some (.slice A xs.length c)) (hy : ev env y = some (.int .i64 (m : Int)))
    (ht : P.underlying t = some (.slice e)) (hinf : (P.info? e).map (·.size) = some sz) (hm : m ≤ xs.length) (hc : ∀ w, HS w0 S H w → xs.length ≤ c) : Qt P n env w0 S H o (.slice A (xs.take m).length c) :=
  qt_same fun a w r s => by
    obtain ⟨i, hi, hsz⟩ := Option.map_eq_some_iff.1 hinf
    have hc := hc w s
    have e1 : (xs.take m).length = m := by simp; omega
    have e2 : m ≤ c := by omega
    cases A <;> simp [execOp, ho, r.ev hx, r.ev hy, Instr.sliceAt, Instr.slice, run_underlying ht, Instr.sliceBounds, Instr.sliceBound, asIntOf, sizeOf, typeInfo, hi, hsz, e1, e2, Addr.add]
theorem qt_dropS {xs : List α} {A : Option Addr} {c : Nat} {x y : Operand} {t e : TypeId} {sz : Nat} (m : Nat) (ho : o.op = .slice t x (some y) none none) (hx : ev env x = some (.slice A xs.length c)) (hy : ev env y = some (.int .i64 (m : Int)))
    (ht : P.underlying t = some (.slice e)) (hinf : (P.info? e).map (·.size) = some sz) (hm : m ≤ xs.length) (hc : ∀ w, HS w0 S H w → xs.length ≤ c) : Qt P n env w0 S H o (.slice (cutA A c m sz) (xs.drop m).length (c - m)) :=
  qt_same fun a w r s => by
    obtain ⟨i, hi, hsz⟩ := Option.map_eq_some_iff.1 hinf
    have hc := hc w s
    have e1 : (xs.drop m).length = xs.length - m := by simp
    simp [execOp, ho, r.ev hx, r.ev hy, Instr.sliceAt, Instr.slice, run_underlying ht, Instr.sliceBounds, Instr.sliceBound, asIntOf, sizeOf, typeInfo, hi, hsz, e1, hm, cutA]
theorem rd_take {enc : α → List Value} {sz : Nat} {A : Option Addr} {xs : List α} (he : ∀ x, (enc x).length = sz) (h : Rd w0 S H A (flat enc xs)) (m : Nat) : Rd w0 S H A (flat enc (xs.take m)) := fun w hs j u hj => by
  refine h w hs j u ?_
  have : flat enc xs = flat enc (xs.take m) ++ flat enc (xs.drop m) := by
    unfold flat; rw [← List.flatMap_append, List.take_append_drop]
  rw [this, List.getElem?_append_left (List.getElem?_eq_some_iff.1 hj).1]; exact hj
theorem arr_drop {enc : α → List Value} {sz : Nat} {A : Option Addr} {xs : List α} {w : World} (he : ∀ x, (enc x).length = sz) (h : arrAt w A (flat enc xs)) {m c : Nat} (hm : m ≤ xs.length) (hc : xs.length ≤ c) : arrAt w (cutA A c m sz) (flat enc (xs.drop m)) := fun j u hj => by
  unfold cutA
  by_cases hcm : c = m
  · rw [List.drop_eq_nil_of_le (by omega)] at hj; simp [flat] at hj
  · rw [if_neg hcm]
    have hfl : flat enc xs = flat enc (xs.take m) ++ flat enc (xs.drop m) := by
      unfold flat; rw [← List.flatMap_append, List.take_append_drop]
    have hlen : (flat enc (xs.take m)).length = m * sz := by rw [flat_len he, List.length_take, Nat.min_eq_left hm]
    obtain ⟨h1, h2⟩ := h (m * sz + j) u (by rw [hfl, List.getElem?_append_right (by omega), hlen]; simpa using hj)
    cases A with
    | none => simp at h1
    | some a =>
      refine ⟨rfl, ?_⟩
      simp only [at0, Option.map_some, Option.getD_some] at h2 ⊢
      rw [add_add']; exact h2
theorem sl_cap {A : Option Addr} {k c : Nat} {t : TypeId} {sz : Nat} {cs : List Value} {w : World} (h : (sl A k c t sz cs).holds w) : k ≤ c := h.2.1
theorem rd_drop {enc : α → List Value} {sz : Nat} {A : Option Addr} {xs : List α} (he : ∀ x, (enc x).length = sz) (h : Rd w0 S H A (flat enc xs)) {m c : Nat} (hm : m ≤ xs.length) (hc : ∀ w, HS w0 S H w → xs.length ≤ c) : Rd w0 S H (cutA A c m sz) (flat enc (xs.drop m)) :=
  fun w hs => arr_drop he (h w hs) hm (hc w hs)
end
end Go.Proofs.YtaacfehlcdkdhaaGreatDoor.V
