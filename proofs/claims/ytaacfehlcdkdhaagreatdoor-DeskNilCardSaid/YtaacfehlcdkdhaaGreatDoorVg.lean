/- My own verifier: a callee walked in its caller's place; loops unrolled. Generic: nothing of the dump. -/
import Derived.Test.YtaacfehlcdkdhaaGreatDoorVf
namespace Go.Proofs.YtaacfehlcdkdhaaGreatDoor.V
open Go
section
variable {P : Program} {Q : Exit → Act → World → Prop} {n : Nat} {env : Env} {w0 : World} {S : List Nat} {H : List V.Item} {ops : Array Oper} {rest : List Oper} {o : Oper} {K : Act → World → Prop}
/-- back in the caller, with the value that was returned -/
def Back (n : Nat) (env : Env) (d : Option Nat) (K : Act → World → Prop) : Ending → World → Prop := fun e w' => ∃ v, e = .returned v ∧ ∀ a, Rep n env a → K (a.put d v) w'
/-- a call, walked in its caller's place -/
theorem A.inl (d : Option Nat) {f : FuncId} {fn : Func} {c : Code} {xs : Array Operand} {ats : Array TypeId} (args : List Value) (env' : Env)
    (hok : headOk ops n env o d = true) (ho : o.op = .call { callee := .value (.func f), args := xs, argTypes := ats }) (hf : callOk P f = true) (hx : xs.toList.map (ev env) = args.map some)
    (hfn : P.funcs[f]? = some fn) (hb : fn.body = some c) (hn : (Nat.ble args.length fn.ntmps) = true) (he : penv args = env')
    (h : A fn.ntmps env' w0 S H (c.wp P (bodyPost P fn (Back n env d K)))) : A n env w0 S H (Step P ops o K) := by
  intro a w r s
  obtain ⟨h1', h2, h3, h4⟩ := headOk_spec hok
  unfold Step
  rw [if_pos (wanted_of r h1')]
  unfold Oper.wp
  rw [run_call hf ho (by rfl), args_env r hx]
  simp only [Oper.upon, h2]
  subst he
  have hc : Calls P f args.toArray w (Back n env d K) := by
    refine calls_of_wp hfn hb (h _ _ ⟨?_, rfl, fun i v hv => ?_⟩ s)
    · have := Nat.le_of_ble_eq_true hn
      simp; omega
    · have hi := look_penv args i v hv
      have hlt : i < args.length := (List.getElem?_eq_some_iff.1 hi).1
      simp only [Array.getD_eq_getD_getElem?]
      rw [Array.getElem?_append_left (by simpa using hlt)]
      simp [hi]
  refine hc.mono fun e w' ⟨v, hv, hk⟩ => ?_
  subst hv
  exact hk a r
theorem A.back {d : Option Nat} {v : Value} (hd : (match d with | some x => Nat.blt x n | none => true) = true) (h : A n (putE env d v) w0 S H K) : ∀ w, HS w0 S H w → Back n env d K (.returned v) w :=
  fun w s => ⟨v, rfl, fun a r => h _ _ (r.putE (fun x hx => by subst hx; exact Nat.le_of_ble_eq_true hd)) s⟩
def fieldOffOk (P : Program) (t : TypeId) (f off : Nat) : Bool :=
  match P.underlying t with
  | some (.struct fs) => (match fs[f]? with
    | some fd => Nat.beq fd.offset off && (match P.info? fd.type with | some i => Nat.blt 0 i.size | none => false)
    | none => false)
  | _ => false
theorem qt_fieldOf2 {x : Operand} {t : TypeId} {f : Nat} {p : Addr} (m off : Nat) (ho : o.op = .fieldAddr t x f) (hx : ev env x = some (.pointer (some (p.add m)))) (h : fieldOffOk P t f off = true) : Qt P n env w0 S H o (.pointer (some (p.add (m + off)))) := by
  unfold fieldOffOk at h
  split at h
  · rename_i fs ht
    split at h
    · rename_i fd hf
      simp only [Bool.and_eq_true] at h
      obtain ⟨h1, h2⟩ := h
      split at h2
      · rename_i i hi
        obtain ⟨k, hk⟩ : ∃ k, i.size = k + 1 := ⟨i.size - 1, by have := Nat.le_of_ble_eq_true h2; omega⟩
        rw [← Nat.eq_of_beq_eq_true h1]
        exact qt_fieldOf ho hx ht hf (by rw [hi]; simp [hk]; rfl)
      · cases h2
    · cases h
  · cases h
/-- what was, still is -/
theorem old_item {it : V.Item} {w1 w : World} {H1 : List V.Item} (s : HS w1 [] H1 w) (h : it.holds w1) : it.holds w := it.loc w1 w (fun b hb => s.fr.block b (it.here w1 h b hb) (by simp)) h
/-- rounds of a loop, one by one -/
def Rounds (P : Program) (c : Code) (Q : Exit → Act → World → Prop) : Nat → Act → World → Prop
  | 0 => fun _ _ => False
  | m + 1 => c.wp P (Exit.then (Rounds P c Q m) Q)
theorem rounds_loop {c : Code} : ∀ (m : Nat) (a : Act) (w : World), Rounds P c Q m a w → (Code.loop c).wp P Q a w := by
  intro m a w h b k cs
  have key : ∀ m a w, Rounds P c Q m a w → ∃ e a' w', Q e a' w' ∧ Arrives P (lone (b.at a (.code c :: .inLoop c :: k)) cs w) b k cs e a' w' := by
    intro m
    induction m with
    | zero => intro a w h; exact h.elim
    | succ m ih =>
      intro a w h
      obtain ⟨e, a₁, w₁, hq, harr⟩ := h b (.inLoop c :: k) cs
      cases e with
      | normal =>
        obtain ⟨e₂, a₂, w₂, hq₂, harr₂⟩ := ih a₁ w₁ hq
        exact ⟨e₂, a₂, w₂, hq₂, .of_steps (Steps.trans harr (.one step_inLoop)) harr₂⟩
      | exit id => exact ⟨_, a₁, w₁, hq, .pass (x := .inLoop c) rfl (fun _ _ => .inl (by simp)) harr⟩
      | goto l => exact ⟨_, a₁, w₁, hq, .pass (x := .inLoop c) rfl (fun _ _ => .inl (by simp)) harr⟩
      | ret => exact ⟨_, a₁, w₁, hq, .pass (x := .inLoop c) rfl (fun _ _ => .inl (by simp)) harr⟩
      | panic ch => exact ⟨_, a₁, w₁, hq, .pass (x := .inLoop c) rfl (fun _ _ => .inl (by simp)) harr⟩
      | outgrown => exact ⟨_, a₁, w₁, hq, .pass (x := .inLoop c) rfl (fun _ _ => .inl (by simp)) harr⟩
  obtain ⟨e, a', w', hq, harr⟩ := key m a w h
  exact ⟨e, a', w', hq, .of_steps (.one step_loop) harr⟩
theorem A.unroll (m : Nat) {c : Code} (h : A n env w0 S H (Rounds P c Q m)) : A n env w0 S H ((Code.loop c).wp P Q) := fun a w r s => rounds_loop m a w (h a w r s)
theorem A.turnk {m : Nat} {c : Code} (h : A n env w0 S H (c.wp P (Exit.then (Rounds P c Q m) Q))) : A n env w0 S H (Rounds P c Q (m + 1)) := h
end
end Go.Proofs.YtaacfehlcdkdhaaGreatDoor.V
