/- My own verifier: a drawn region in which the one that writes is named ahead of the quiet one. Generic: nothing of the dump. -/
import Derived.Test.YtaacfehlcdkdhaaGreatDoorVs
namespace Go.Proofs.YtaacfehlcdkdhaaGreatDoor.V
open Go
section
variable {P : Program} {n : Nat} {env : Env} {w0 : World} {S : List Nat} {H : List Item} {ops : Array Oper} {o : Oper} {K : Act → World → Prop} {f : Nat} {L : List Nat} {listed : Array Bool}
theorem A.fork2r (i j : Nat) {o' : Oper} (hi : ops[i]? = some o) (hj : ops[j]? = some o') (hr : (Region.ready .any ops listed, Nat.beq i j) = ([j, i], false))
    (h1 : A n env w0 S H (Step P ops o (fun a w => HS w0 S H w ∧ U2 P ops K f (j :: L) (HS w0 S H) (listed.setIfInBounds i true) a w)))
    (h2 : A n env w0 S H (Step P ops o' (fun a w => ∃ S' : World → Prop, (∀ w w', S' w → Fr [] w w' → S' w') ∧ S' w ∧ U2 P ops K f L S' (listed.setIfInBounds j true) a w))) : A n env w0 S H (U2 P ops K (f + 1) (j :: L) (HS w0 S H) listed) := by
  intro a w r s
  simp only [Prod.mk.injEq] at hr
  refine ⟨fun h0 => (by rw [hr.1] at h0; cases h0), fun m hm w' hf => ?_⟩
  have hij := Nat.ne_of_beq_eq_false hr.2
  rw [hr.1] at hm
  simp only [List.mem_cons, List.not_mem_nil, or_false] at hm
  rcases hm with rfl | rfl
  · have h := h2 a w' r (s.kept hf)
    unfold Step at h
    unfold wpOp
    simp only [hj]
    split
    · rename_i hw; rw [if_pos hw] at h; exact .inl (Oper.wp_imp h fun _ _ h => .inl ⟨rfl, h⟩)
    · rename_i hw; rw [if_neg hw] at h; exact .inl ⟨rfl, h⟩
  · have h := h1 a w' r (s.kept hf)
    unfold Step at h
    unfold wpOp
    simp only [hi]
    split
    · rename_i hw; rw [if_pos hw] at h; exact .inl (Oper.wp_imp h fun _ _ h => .inr ⟨by simpa using fun e => hij e.symm, h⟩)
    · rename_i hw; rw [if_neg hw] at h; exact .inr ⟨by simpa using fun e => hij e.symm, h⟩
end
end Go.Proofs.YtaacfehlcdkdhaaGreatDoor.V
