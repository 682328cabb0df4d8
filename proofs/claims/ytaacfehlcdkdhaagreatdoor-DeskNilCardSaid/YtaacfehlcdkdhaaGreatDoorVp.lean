/- My own verifier: a store at an element of a slice of the call's own. Generic: nothing of the dump. -/
import Derived.Test.YtaacfehlcdkdhaaGreatDoorVq
namespace Go.Proofs.YtaacfehlcdkdhaaGreatDoor.V
open Go
theorem list_put {L vs : List Value} {m p sz : Nat} (hp : p + sz ≤ m) (hL : m ≤ L.length) (hv : vs.length = sz) : (L.take p ++ vs ++ L.drop (p + sz)).take m = (L.take m).take p ++ vs ++ (L.take m).drop (p + sz) := by
  have hA : (L.take p ++ vs).length = p + sz := by simp; omega
  rw [List.take_append, List.take_of_length_le (by omega), hA, List.take_take, Nat.min_eq_left (by omega), List.drop_take]
section
variable {P : Program} {n : Nat} {env : Env} {w0 : World} {S : List Nat} {H : List Item} {ops : Array Oper} {o : Oper} {K : Act → World → Prop}
theorem A.storeSl {α : Type} (i k : Nat) {t ty : TypeId} {x y : Operand} {A : Option Addr} {c sz : Nat} {u : Value} {enc : α → List Value} {xs : List α} (v : α) (H' : List Item) (hok : headOk ops n env o none = true) (ho : o.op = .store t x y)
    (hx : ev env x = some (.pointer (some ((at0 A).add (k * sz))))) (hy : ev env y = some u) (hu : u.cells = (enc v).toArray) (hsz : (P.info? t).map (·.size) = some sz) (h1 : (enc v).all Value.oneCell' = true) (he : ∀ x, (enc x).length = sz)
    (hz : 0 < sz) (hi : H[i]? = some (sl A xs.length c ty sz (flat enc xs))) (hk : k < xs.length) (hH : H.set i (sl A (xs.set k v).length c ty sz (flat enc (xs.set k v))) = H') (h : V.A n env w0 S H' K) : V.A n env w0 S H (Step P ops o K) := by
  intro a w r s
  obtain ⟨h1', h2, h3, h4⟩ := headOk_spec hok
  unfold Step
  rw [if_pos (wanted_of r h1')]
  have hs : slHolds A xs.length c ty sz (flat enc xs) w := s.mem hi
  obtain ⟨q1, q2, q3, ⟨rfl, q4⟩ | ⟨g, off, cur, rfl, hg, hle, htake⟩⟩ := hs
  · omega
  have hmul : (k + 1) * sz ≤ xs.length * sz := Nat.mul_le_mul_right sz hk
  have hmul2 : xs.length * sz ≤ c * sz := Nat.mul_le_mul_right sz q2
  rw [Nat.add_mul, Nat.one_mul] at hmul
  have ha : (at0 (some (⟨g, off, none⟩ : Addr))).add (k * sz) = ⟨g, off + k * sz, none⟩ := by simp only [at0, Option.getD_some]; exact add_lit' ..
  rw [ha] at hx
  have hh : w.heap[g]? = some (.cells cur.toList.toArray ty (0, 0)) := by rw [hg]
  have hve : (enc v).length = sz := he v
  have hst := run_storeCells_at P g (off + k * sz) ty (enc v) 0 cur.toList.toArray w hh (by simp; omega) (fun v hv => List.all_eq_true.1 h1 v hv)
  simp only [Nat.add_zero] at hst
  have hlen : u.cells.size = (enc v).length := by rw [hu]; simp
  simp only [Option.map_eq_some_iff] at hsz
  obtain ⟨inf, hinf, hsz⟩ := hsz
  have hrun : (execOp a.eval o).run P w = .ok .skip (w.setRow g (cur.toList.take (off + k * sz) ++ enc v ++ cur.toList.drop (off + k * sz + (enc v).length)).toArray) := by
    simp only [execOp, ho, Instr.storeAt, r.ev hx, r.ev hy, Instr.sureAddr, storeVar, sizeOf, typeInfo, Sem.run_bind, run_program, Sem.run_pure, Result.andThen_ok, hinf, hsz, hlen, hve]
    simp [hu] at hst ⊢
    rw [hst]; simp [hve]
  unfold Oper.wp
  rw [hrun]
  simp only [Oper.upon, h2]
  refine h _ _ r ?_
  rw [← hH]
  refine s.turn hi (fr_setRow _ _ _) ?_ (by simp [sl, slFoot]) (fun b hb => .inl hb)
  refine ⟨by rw [flat_len he], by rw [List.length_set]; exact q2, q3, .inr ⟨g, off, _, rfl, setRow_at w g _ _ ty hh, by simp; omega, ?_⟩⟩
  have hL : xs.length * sz ≤ (cur.toList.drop off).length := by simp; omega
  have e1 : (cur.toList.take (off + k * sz) ++ enc v ++ cur.toList.drop (off + k * sz + (enc v).length)).drop off = (cur.toList.drop off).take (k * sz) ++ enc v ++ (cur.toList.drop off).drop (k * sz + sz) := by
    rw [List.append_assoc, List.drop_append, List.drop_take, List.length_take, Nat.min_eq_left (by simp; omega), show off - (off + k * sz) = 0 by omega, List.drop_zero, show off + k * sz - off = k * sz by omega, List.drop_drop, hve, ← List.append_assoc, show off + (k * sz + sz) = off + k * sz + sz by omega]
  show ((List.toArray _).toList.drop off).take ((xs.set k v).length * sz) = _
  rw [List.length_set]
  simp only [List.toList_toArray]
  rw [e1, list_put hmul hL hve, htake, ← he v, ← flat_set (fun x => he x) xs k v hk, he v]
end
end Go.Proofs.YtaacfehlcdkdhaaGreatDoor.V
