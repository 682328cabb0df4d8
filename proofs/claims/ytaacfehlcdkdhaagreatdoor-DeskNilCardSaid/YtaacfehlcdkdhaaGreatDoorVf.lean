/- My own verifier: what came in, as lists. Generic: nothing of the dump. -/
import Derived.Test.YtaacfehlcdkdhaaGreatDoorVe
import Derived.Laws.Strings
namespace Go.Proofs.YtaacfehlcdkdhaaGreatDoor.V
open Go
theorem ba_beq (a b : ByteArray) : (a == b) = (a.data == b.data) := by cases a; cases b; rfl
theorem lawful_ba : LawfulBEq ByteArray where
  rfl {a} := by rw [ba_beq]; simp
  eq_of_beq {a b} h := by rw [ba_beq] at h; exact ByteArray.ext (by simpa using h)
instance : LawfulBEq ByteArray := lawful_ba
theorem toList_beq (a b : ByteArray) : (a.toList == b.toList) = (a == b) := by
  rw [ba_beq, ByteArray.toList_eq, ByteArray.toList_eq, Bool.eq_iff_iff]; simp [Array.ext_iff]
section
variable {P : Program} {n : Nat} {env : Env} {w0 : World} {S : List Nat} {H : List V.Item} {o : Oper}
theorem qt_eqlS {t ty : TypeId} {x y : Operand} {b c : ByteArray} (ho : o.op = .binOp .eql t x y ty) (hx : ev env x = some (.string b)) (hy : ev env y = some (.string c)) : Qt P n env w0 S H o (.bool (b == c)) :=
  qt_same fun a w r _ => by simp [execOp, ho, r.ev hx, r.ev hy, eqGuard, binOp, Op.stringOp, toList_beq]
theorem qt_neqS {t ty : TypeId} {x y : Operand} {b c : ByteArray} (ho : o.op = .binOp .neq t x y ty) (hx : ev env x = some (.string b)) (hy : ev env y = some (.string c)) : Qt P n env w0 S H o (.bool (b != c)) :=
  qt_same fun a w r _ => by simp [execOp, ho, r.ev hx, r.ev hy, eqGuard, binOp, Op.stringOp, toList_beq, bne]
end
theorem arr_nil (w : World) (A : Option Addr) : arrAt w A [] := by intro j u hu; simp at hu
theorem arr_ints {k : IntKind} {w : World} {x : Addr} {zs : List Int} (len : Nat) (hcell : ∀ i, i < zs.length → w.cell? (x.add i) = some (.int k (zs.getD i 0))) :
    arrAt w (some x) (flat (fun z => [.int k z]) (zs.take len)) := by
  intro j u hu
  have he : flat (fun z => [Value.int k z]) (zs.take len) = (zs.take len).map (Value.int k) := by
    simp only [flat]; induction zs.take len <;> simp_all
  rw [he, List.getElem?_map] at hu
  obtain ⟨z, hz, rfl⟩ := Option.map_eq_some_iff.1 hu
  rw [List.getElem?_take] at hz
  split at hz
  · have hlt := (List.getElem?_eq_some_iff.1 hz).1
    refine ⟨rfl, ?_⟩
    simp only [at0, Option.getD_some]
    rw [hcell j hlt]
    simp [List.getD, hz]
  · cases hz
theorem arr_strs {w : World} {x : Addr} {ss : List ByteArray} (len : Nat) (hcell : ∀ i, i < ss.length → w.cell? (x.add i) = some (.string (ss.getD i ByteArray.empty))) :
    arrAt w (some x) (flat (fun z => [.string z]) (ss.take len)) := by
  intro j u hu
  have he : flat (fun z => [Value.string z]) (ss.take len) = (ss.take len).map Value.string := by
    simp only [flat]; induction ss.take len <;> simp_all
  rw [he, List.getElem?_map] at hu
  obtain ⟨z, hz, rfl⟩ := Option.map_eq_some_iff.1 hu
  rw [List.getElem?_take] at hz
  split at hz
  · have hlt := (List.getElem?_eq_some_iff.1 hz).1
    refine ⟨rfl, ?_⟩
    simp only [at0, Option.getD_some]
    rw [hcell j hlt]
    simp [List.getD, hz]
  · cases hz
end Go.Proofs.YtaacfehlcdkdhaaGreatDoor.V
