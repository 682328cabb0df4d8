/- My own verifier: batches: the rules that a proof uses, for straight regions and for those that draw their order. Generic: nothing of the dump. -/
import Derived.Test.YtaacfehlcdkdhaaGreatDoorVz
namespace Go.Proofs.YtaacfehlcdkdhaaGreatDoor.V
open Go

def dup (l : List Nat) : List (Nat × Nat) := l.map fun b => (b, b)
theorem dup_ok {l : List Nat} : ∀ p ∈ dup l, p.1 = p.2 := by intro p hp; simp [dup] at hp; obtain ⟨b, _, rfl⟩ := hp; rfl
def T0 : Cx → Prop := fun _ => True
def ids (e : Env) : List Nat := e.map (·.1)
section
variable {P : Program} {Q : Exit → Act → World → Prop} {n : Nat} {env : Env} {w0 : World} {S : List Nat} {H : List Item} {ops : Array Oper} {rest : List Oper} {K : Act → World → Prop}

theorem go_core {m : Nat} {k : Nat} (hs : List Hn) (ii : List Nat) (E : List Nat → Env) (H' : List Nat → List Item) (l : List Nat → List Nat) (C : List Nat → Cx → Prop)
    (hx : ∀ bs, bs.length = m → (nb hs, X P ops n ii hs (rest.take k) bs env [] H true) = (m, some ⟨E bs, H' bs, dup (l bs), C bs⟩))
    (hc : ∀ bs, bs.length = m → C bs ⟨P, w0, S, H⟩) (h : ∀ bs, bs.length = m → A n (E bs) w0 S (H' bs) (wpList P ops Q (rest.drop k))) : A n env w0 S H (wpList P ops Q rest) := by
  intro a w r s
  have h1 := X_sound (P := P) (ops := ops) (Q := Q) (Hc := H) (rest := rest.drop k) hs (rest.take k) env [] H true (fun _ => rfl) (ids := ii) (fun bs hbs => ?_) a w r s
  · rw [List.take_append_drop] at h1; exact h1
  · have hm : nb hs = m := by
      have := hx (zeros m) zeros_len
      simp at this; exact this.1
    have := hx bs (hbs.trans hm)
    simp at this
    exact ⟨_, this.2, dup_ok, hc bs (hbs.trans hm), h bs (hbs.trans hm)⟩
/-- to the region's end; nothing is written -/
theorem A.goA (hs : List Hn) (env' : Env) (l : List Nat) (C : Cx → Prop) (hx : (nb hs, X P ops n (ids env') hs rest [] env [] H true) = (0, some ⟨env', H, dup l, C⟩)) (hc : C ⟨P, w0, S, H⟩) (h : A n env' w0 S H (Q .normal)) : A n env w0 S H (wpList P ops Q rest) :=
  go_core (m := 0) (k := rest.length) hs (ids env') (fun _ => env') (fun _ => H) (fun _ => l) (fun _ => C) (fun bs hb => by
    obtain rfl := List.eq_nil_of_length_eq_zero hb
    rw [List.take_length]; exact hx) (fun _ _ => hc) (fun _ _ => by rw [List.drop_length]; exact h)
/-- some of the operations; nothing is written -/
theorem A.goP (hs : List Hn) (env' : Env) (l : List Nat) (C : Cx → Prop) (hx : (nb hs, X P ops n (ids env') hs (rest.take (nops hs)) [] env [] H true) = (0, some ⟨env', H, dup l, C⟩)) (hc : C ⟨P, w0, S, H⟩) (h : A n env' w0 S H (wpList P ops Q (rest.drop (nops hs)))) : A n env w0 S H (wpList P ops Q rest) :=
  go_core (m := 0) (k := nops hs) hs (ids env') (fun _ => env') (fun _ => H) (fun _ => l) (fun _ => C) (fun bs hb => by
    obtain rfl := List.eq_nil_of_length_eq_zero hb
    exact hx) (fun _ _ => hc) (fun _ _ => h)
theorem A.goAS (hs : List Hn) (env' : Env) (H' : List Item) (l : List Nat) (C : Cx → Prop) (hx : (nb hs, X P ops n (ids env') hs rest [] env [] H true) = (0, some ⟨env', H', dup l, C⟩)) (hc : C ⟨P, w0, S, H⟩) (h : A n env' w0 S H' (Q .normal)) : A n env w0 S H (wpList P ops Q rest) :=
  go_core (m := 0) (k := rest.length) hs (ids env') (fun _ => env') (fun _ => H') (fun _ => l) (fun _ => C) (fun bs hb => by
    obtain rfl := List.eq_nil_of_length_eq_zero hb
    rw [List.take_length]; exact hx) (fun _ _ => hc) (fun _ _ => by rw [List.drop_length]; exact h)
theorem A.goPS (hs : List Hn) (env' : Env) (H' : List Item) (l : List Nat) (C : Cx → Prop) (hx : (nb hs, X P ops n (ids env') hs (rest.take (nops hs)) [] env [] H true) = (0, some ⟨env', H', dup l, C⟩)) (hc : C ⟨P, w0, S, H⟩) (h : A n env' w0 S H' (wpList P ops Q (rest.drop (nops hs)))) : A n env w0 S H (wpList P ops Q rest) :=
  go_core (m := 0) (k := nops hs) hs (ids env') (fun _ => env') (fun _ => H') (fun _ => l) (fun _ => C) (fun bs hb => by
    obtain rfl := List.eq_nil_of_length_eq_zero hb
    exact hx) (fun _ _ => hc) (fun _ _ => h)
/-- one new block -/
theorem A.goA1 (hs : List Hn) (ii : List Nat) (E : Nat → Env) (H' : Nat → List Item) (l : Nat → List Nat) (C : Nat → Cx → Prop) (hx : ∀ b, (nb hs, X P ops n ii hs rest [b] env [] H true) = (1, some ⟨E b, H' b, dup (l b), C b⟩)) (hc : ∀ b, C b ⟨P, w0, S, H⟩) (h : ∀ b, A n (E b) w0 S (H' b) (Q .normal)) : A n env w0 S H (wpList P ops Q rest) :=
  go_core (m := 1) (k := rest.length) hs ii (fun bs => E (bs.getD 0 0)) (fun bs => H' (bs.getD 0 0)) (fun bs => l (bs.getD 0 0)) (fun bs => C (bs.getD 0 0)) (fun bs hb => by
    obtain ⟨b, rfl⟩ := List.length_eq_one_iff.1 hb
    rw [List.take_length]; exact hx b) (fun _ _ => hc _) (fun _ _ => by rw [List.drop_length]; exact h _)
theorem A.goP1 (hs : List Hn) (ii : List Nat) (E : Nat → Env) (H' : Nat → List Item) (l : Nat → List Nat) (C : Nat → Cx → Prop) (hx : ∀ b, (nb hs, X P ops n ii hs (rest.take (nops hs)) [b] env [] H true) = (1, some ⟨E b, H' b, dup (l b), C b⟩)) (hc : ∀ b, C b ⟨P, w0, S, H⟩) (h : ∀ b, A n (E b) w0 S (H' b) (wpList P ops Q (rest.drop (nops hs)))) : A n env w0 S H (wpList P ops Q rest) :=
  go_core (m := 1) (k := nops hs) hs ii (fun bs => E (bs.getD 0 0)) (fun bs => H' (bs.getD 0 0)) (fun bs => l (bs.getD 0 0)) (fun bs => C (bs.getD 0 0)) (fun bs hb => by
    obtain ⟨b, rfl⟩ := List.length_eq_one_iff.1 hb
    exact hx b) (fun _ _ => hc _) (fun _ _ => h _)
theorem A.goA2 (hs : List Hn) (ii : List Nat) (E : Nat → Nat → Env) (H' : Nat → Nat → List Item) (l : Nat → Nat → List Nat) (C : Nat → Nat → Cx → Prop) (hx : ∀ b c, (nb hs, X P ops n ii hs rest [b, c] env [] H true) = (2, some ⟨E b c, H' b c, dup (l b c), C b c⟩)) (hc : ∀ b c, C b c ⟨P, w0, S, H⟩) (h : ∀ b c, A n (E b c) w0 S (H' b c) (Q .normal)) : A n env w0 S H (wpList P ops Q rest) :=
  go_core (m := 2) (k := rest.length) hs ii (fun bs => E (bs.getD 0 0) (bs.getD 1 0)) (fun bs => H' (bs.getD 0 0) (bs.getD 1 0)) (fun bs => l (bs.getD 0 0) (bs.getD 1 0)) (fun bs => C (bs.getD 0 0) (bs.getD 1 0)) (fun bs hb => by
    match bs, hb with
    | [b, c], _ => rw [List.take_length]; exact hx b c) (fun _ _ => hc _ _) (fun _ _ => by rw [List.drop_length]; exact h _ _)
theorem A.goP2 (hs : List Hn) (ii : List Nat) (E : Nat → Nat → Env) (H' : Nat → Nat → List Item) (l : Nat → Nat → List Nat) (C : Nat → Nat → Cx → Prop) (hx : ∀ b c, (nb hs, X P ops n ii hs (rest.take (nops hs)) [b, c] env [] H true) = (2, some ⟨E b c, H' b c, dup (l b c), C b c⟩)) (hc : ∀ b c, C b c ⟨P, w0, S, H⟩) (h : ∀ b c, A n (E b c) w0 S (H' b c) (wpList P ops Q (rest.drop (nops hs)))) : A n env w0 S H (wpList P ops Q rest) :=
  go_core (m := 2) (k := nops hs) hs ii (fun bs => E (bs.getD 0 0) (bs.getD 1 0)) (fun bs => H' (bs.getD 0 0) (bs.getD 1 0)) (fun bs => l (bs.getD 0 0) (bs.getD 1 0)) (fun bs => C (bs.getD 0 0) (bs.getD 1 0)) (fun bs hb => by
    match bs, hb with
    | [b, c], _ => exact hx b c) (fun _ _ => hc _ _) (fun _ _ => h _ _)
theorem A.goA3 (hs : List Hn) (ii : List Nat) (E : Nat → Nat → Nat → Env) (H' : Nat → Nat → Nat → List Item) (l : Nat → Nat → Nat → List Nat) (C : Nat → Nat → Nat → Cx → Prop) (hx : ∀ b c d, (nb hs, X P ops n ii hs rest [b, c, d] env [] H true) = (3, some ⟨E b c d, H' b c d, dup (l b c d), C b c d⟩)) (hc : ∀ b c d, C b c d ⟨P, w0, S, H⟩) (h : ∀ b c d, A n (E b c d) w0 S (H' b c d) (Q .normal)) : A n env w0 S H (wpList P ops Q rest) :=
  go_core (m := 3) (k := rest.length) hs ii (fun bs => E (bs.getD 0 0) (bs.getD 1 0) (bs.getD 2 0)) (fun bs => H' (bs.getD 0 0) (bs.getD 1 0) (bs.getD 2 0)) (fun bs => l (bs.getD 0 0) (bs.getD 1 0) (bs.getD 2 0)) (fun bs => C (bs.getD 0 0) (bs.getD 1 0) (bs.getD 2 0)) (fun bs hb => by
    match bs, hb with
    | [b, c, d], _ => rw [List.take_length]; exact hx b c d) (fun _ _ => hc _ _ _) (fun _ _ => by rw [List.drop_length]; exact h _ _ _)
end

/-! ### drawn regions by stages: L: the operations that write, one behind the other -/
def U2 (P : Program) (ops : Array Oper) (K : Act → World → Prop) : Nat → List Nat → (World → Prop) → Array Bool → Act → World → Prop
  | 0, _, _, listed, a, w => Region.ready .any ops listed = [] ∧ ∀ w', Fr [] w w' → K a w'
  | f + 1, L, S, listed, a, w => (Region.ready .any ops listed = [] → ∀ w', Fr [] w w' → K a w') ∧
    ∀ i ∈ Region.ready .any ops listed, ∀ w', Fr [] w w' → wpOp P ops Qf i (fun a' w'' =>
      (L.head? = some i ∧ ∃ S' : World → Prop, (∀ w w', S' w → Fr [] w w' → S' w') ∧ S' w'' ∧ U2 P ops K f L.tail S' (listed.setIfInBounds i true) a' w'') ∨ (L.head? ≠ some i ∧ S w'' ∧ U2 P ops K f L S (listed.setIfInBounds i true) a' w'')) a w'
section
variable {P : Program} {ops : Array Oper} {K : Act → World → Prop} {S : World → Prop} {Q : Exit → Act → World → Prop}
theorem U2.up : ∀ {f : Nat} {L : List Nat} {S : World → Prop} {listed : Array Bool} {a : Act} {w w' : World}, U2 P ops K f L S listed a w → Fr [] w w' → U2 P ops K f L S listed a w'
  | 0, _, _, _, _, _, _, h, hf => ⟨h.1, fun w'' hf' => h.2 w'' (hf.trans hf')⟩
  | _ + 1, _, _, _, _, _, _, h, hf => ⟨fun h0 w'' hf' => h.1 h0 w'' (hf.trans hf'), fun i hi w'' hf' => h.2 i hi w'' (hf.trans hf')⟩
theorem U2.sound : ∀ (f : Nat) (L : List Nat) (S : World → Prop) (listed : Array Bool) (a : Act) (w : World), U2 P ops (Q .normal) f L S listed a w → wpAny P .any ops Q f listed a w
  | 0, _, _, _, _, _, h => ⟨h.1, h.2 _ (Fr.refl _ _)⟩
  | f + 1, L, S, _, _, w, h => ⟨fun h0 => h.1 h0 _ (Fr.refl _ _), fun i hi => wpOp_of (h.2 i hi w (Fr.refl _ _)) fun a' w' h' => by
      rcases h' with ⟨_, S', _, _, h'⟩ | ⟨_, _, h'⟩
      · exact U2.sound f _ _ _ a' w' h'
      · exact U2.sound f _ _ _ a' w' h'⟩
/-- m waits for i, by way of others -/
def far (ops : Array Oper) : Nat → Nat → Nat → Bool
  | 0, _, _ => false
  | f + 1, m, i => match ops[m]? with
    | some o => o.after.any (fun e => Region.binds .any e && (Nat.beq e.on i || far ops f e.on i))
    | none => false
/-- the head of L waits for i -/
def waits (ops : Array Oper) (L : List Nat) (i : Nat) : Bool := match L with
  | [] => true
  | m :: _ => !(Nat.beq m i) && far ops 6 m i
/-- what is listed has all that it waits for -/
def Closed (ops : Array Oper) (listed : Array Bool) : Prop := ∀ j o, ops[j]? = some o → listed.getD j false = true → ∀ e ∈ o.after, Region.binds .any e = true → listed.getD e.on false = true
def closedB (ops : Array Oper) (listed : Array Bool) : Bool := (List.range ops.size).all fun j => !(listed.getD j false) || (match ops[j]? with | some o => o.after.all (fun e => !(Region.binds .any e) || listed.getD e.on false) | none => true)
theorem closedB_spec {listed : Array Bool} (h : closedB ops listed = true) : Closed ops listed := by
  intro j o ho hl e he hb
  have hlt : j < ops.size := (Array.getElem?_eq_some_iff.1 ho).1
  have h1 := List.all_eq_true.1 h j (List.mem_range.2 hlt)
  simp only [hl, Bool.not_true, Bool.false_or, ho] at h1
  have h2 := Array.all_eq_true'.1 h1 e he
  simpa [hb] using h2
theorem Closed.set {listed : Array Bool} {i : Nat} (h : Closed ops listed) (hi : i ∈ Region.ready .any ops listed) : Closed ops (listed.setIfInBounds i true) := by
  intro j o ho hl e he hb
  refine getD_set_true ?_
  by_cases hji : j = i
  · subst hji
    obtain ⟨_, oj, hoj, hall⟩ := mem_ready.1 hi
    rw [ho] at hoj; cases hoj
    exact hall e he hb
  · rw [getD_set_ne false (Ne.symm hji)] at hl
    exact h j o ho hl e he hb
theorem far_listed {listed : Array Bool} (hc : Closed ops listed) : ∀ (f m i : Nat), (∀ o, ops[m]? = some o → ∀ e ∈ o.after, Region.binds .any e = true → listed.getD e.on false = true) → far ops f m i = true → listed.getD i false = true
  | 0, _, _, _, h => by simp [far] at h
  | f + 1, m, i, hm, h => by
    unfold far at h
    cases ho : ops[m]? with
    | none => rw [ho] at h; simp at h
    | some o =>
      rw [ho] at h
      obtain ⟨e, he, hb⟩ := (Array.any_eq_true' .. |>.1 h)
      simp only [Bool.and_eq_true, Bool.or_eq_true] at hb
      have h1 := hm o ho e he hb.1
      rcases hb.2 with h2 | h2
      · rw [← Nat.eq_of_beq_eq_true h2]; exact h1
      · exact far_listed hc f e.on i (fun o' ho' => hc _ o' ho' h1) h2
theorem waits_ready {L : List Nat} {i j : Nat} {listed : Array Bool} (hc : Closed ops listed) (h : waits ops L i = true) (hi : listed.getD i true = false) (hj : j ∈ Region.ready .any ops listed) : L.head? ≠ some j := by
  intro hL
  cases L with
  | nil => cases hL
  | cons m L =>
    simp at hL; subst hL
    obtain ⟨_, oj, hoj, hall⟩ := mem_ready.1 hj
    simp only [waits, Bool.and_eq_true] at h
    have h1 := far_listed hc 6 m i (fun o ho => by rw [hoj] at ho; cases ho; exact hall) h.2
    rcases Nat.lt_or_ge i listed.size with h' | h'
    · simp [h'] at hi h1; rw [hi] at h1; cases h1
    · simp [Array.getElem?_eq_none h'] at hi
theorem waits_ne {L : List Nat} {i : Nat} (h : waits ops L i = true) : L.head? ≠ some i := by
  intro hL
  cases L with
  | nil => cases hL
  | cons m L => simp at hL; subst hL; simp [waits] at h
theorem U2.first {i : Nat} {oi : Oper} {v : Value} {L : List Nat} (hi : ops[i]? = some oi) (hsel : ∀ (j : Nat) (o : Oper) cs b, ops[j]? = some o → o.op ≠ .select cs b) (hcl : ∀ w w', S w → Fr [] w w' → S w') (hL : waits ops L i = true) :
    ∀ (f : Nat) (listed : Array Bool) (a : Act) (w : World), Closed ops listed →
      (∀ j oj, ops[j]? = some oj → j ≠ i → listed.getD j true = false → (∀ e ∈ oj.after, Region.binds .any e = true → e.on ≠ i) → oi.apart ops oj = true) →
      i ∈ Region.ready .any ops listed → Quiet P ops S oi v a → S w → U2 P ops K f L S (listed.setIfInBounds i true) (a.put oi.dst v) w → U2 P ops K (f + 1) L S listed a w := by
  intro f
  induction f with
  | zero =>
    intro listed a w _ _ hr hy hS H
    refine ⟨fun h => (by rw [h] at hr; cases hr), fun j hj w' hf => ?_⟩
    by_cases hji : j = i
    · subst hji; exact hy.wpOp hi (hcl _ _ hS hf) fun w'' hf' => .inr ⟨waits_ne hL, hcl _ _ (hcl _ _ hS hf) hf', H.up (hf.trans hf')⟩
    · have := ready_mono hj hji
      rw [H.1] at this
      cases this
  | succ f ih =>
    intro listed a w hclo hfree hr hy hS H
    refine ⟨fun h => (by rw [h] at hr; cases hr), fun j hj w' hf => ?_⟩
    have hS' := hcl _ _ hS hf
    by_cases hji : j = i
    · subst hji; exact hy.wpOp hi hS' fun w'' hf' => .inr ⟨waits_ne hL, hcl _ _ hS' hf', H.up (hf.trans hf')⟩
    · have h1 := H.2 j (ready_mono hj hji) w' hf
      have hnj := waits_ready hclo hL (mem_ready.1 hr).1 hj
      obtain ⟨hjun, oj, hoj, hall⟩ := mem_ready.1 hj
      have hnot : ∀ e ∈ oj.after, Region.binds .any e = true → e.on ≠ i := fun e he hb heq => by
        have h1 := hall e he hb
        have h0 := (mem_ready.1 hr).1
        rw [heq] at h1
        rcases Nat.lt_or_ge i listed.size with h' | h'
        · simp [h'] at h0 h1; rw [h0] at h1; cases h1
        · simp [Array.getElem?_eq_none h'] at h1
      have h2 := wpOp_comm hoj (hfree j oj hoj hji hjun hnot) (fun cs b => hsel i oi cs b hi) (fun cs b => hsel j oj cs b hoj) hy h1
      have hfree' : ∀ k ok, ops[k]? = some ok → k ≠ i → (listed.setIfInBounds j true).getD k true = false → (∀ e ∈ ok.after, Region.binds .any e = true → e.on ≠ i) → oi.apart ops ok = true := fun k ok hk hki hun hno => by
        refine hfree k ok hk hki ?_ hno
        by_cases hjk : j = k
        · subst hjk; exact hjun
        · rw [getD_set_ne true hjk] at hun; exact hun
      refine wpOp_of h2 fun a' w'' h3 => .inr ⟨hnj, ?_⟩
      obtain ⟨hyq, h3⟩ := h3
      rcases h3 with ⟨hh, _⟩ | ⟨_, hS3, hU3⟩
      · exact absurd hh hnj
      refine ⟨hS3, ih (listed.setIfInBounds j true) a' w'' (hclo.set hj) hfree' (ready_mono hr (Ne.symm hji)) hyq hS3 ?_⟩
      rw [Array.setIfInBounds_comm _ _ hji]
      exact hU3
/-- an operation that does not look at memory may be taken whatever is under way -/
theorem U2.firstP {i : Nat} {oi : Oper} {v : Value} (hi : ops[i]? = some oi) (hsel : ∀ (j : Nat) (o : Oper) cs b, ops[j]? = some o → o.op ≠ .select cs b) :
    ∀ (f : Nat) (L : List Nat) (S : World → Prop) (listed : Array Bool) (a : Act) (w : World), (∀ w w', S w → Fr [] w w' → S w') → i ∉ L →
      (∀ j oj, ops[j]? = some oj → j ≠ i → listed.getD j true = false → (∀ e ∈ oj.after, Region.binds .any e = true → e.on ≠ i) → oi.apart ops oj = true) →
      i ∈ Region.ready .any ops listed → Quiet P ops (fun _ => True) oi v a → S w → U2 P ops K f L S (listed.setIfInBounds i true) (a.put oi.dst v) w → U2 P ops K (f + 1) L S listed a w := by
  intro f
  induction f with
  | zero =>
    intro L S listed a w hcl hL _ hr hy hS H
    refine ⟨fun h => (by rw [h] at hr; cases hr), fun j hj w' hf => ?_⟩
    by_cases hji : j = i
    · subst hji
      refine hy.wpOp hi trivial fun w'' hf' => .inr ⟨fun h => hL (List.mem_of_mem_head? h), hcl _ _ (hcl _ _ hS hf) hf', H.up (hf.trans hf')⟩
    · have := ready_mono hj hji
      rw [H.1] at this
      cases this
  | succ f ih =>
    intro L S listed a w hcl hL hfree hr hy hS H
    refine ⟨fun h => (by rw [h] at hr; cases hr), fun j hj w' hf => ?_⟩
    have hS' := hcl _ _ hS hf
    by_cases hji : j = i
    · subst hji
      exact hy.wpOp hi trivial fun w'' hf' => .inr ⟨fun h => hL (List.mem_of_mem_head? h), hcl _ _ hS' hf', H.up (hf.trans hf')⟩
    · have h1 := H.2 j (ready_mono hj hji) w' hf
      obtain ⟨hjun, oj, hoj, hall⟩ := mem_ready.1 hj
      have hnot : ∀ e ∈ oj.after, Region.binds .any e = true → e.on ≠ i := fun e he hb heq => by
        have h1 := hall e he hb
        have h0 := (mem_ready.1 hr).1
        rw [heq] at h1
        rcases Nat.lt_or_ge i listed.size with h' | h'
        · simp [h'] at h0 h1; rw [h0] at h1; cases h1
        · simp [Array.getElem?_eq_none h'] at h1
      have h2 := wpOp_comm hoj (hfree j oj hoj hji hjun hnot) (fun cs b => hsel i oi cs b hi) (fun cs b => hsel j oj cs b hoj) hy h1
      have hfree' : ∀ k ok, ops[k]? = some ok → k ≠ i → (listed.setIfInBounds j true).getD k true = false → (∀ e ∈ ok.after, Region.binds .any e = true → e.on ≠ i) → oi.apart ops ok = true := fun k ok hk hki hun hno => by
        refine hfree k ok hk hki ?_ hno
        by_cases hjk : j = k
        · subst hjk; exact hjun
        · rw [getD_set_ne true hjk] at hun; exact hun
      refine wpOp_of h2 fun a' w'' h3 => ?_
      obtain ⟨hyq, h3⟩ := h3
      rcases h3 with ⟨hh, S', hcl', hS3, hU3⟩ | ⟨hh, hS3, hU3⟩
      · refine .inl ⟨hh, S', hcl', hS3, ih L.tail S' (listed.setIfInBounds j true) a' w'' hcl' (fun h => hL (List.mem_of_mem_tail h)) hfree' (ready_mono hr (Ne.symm hji)) hyq hS3 ?_⟩
        rw [Array.setIfInBounds_comm _ _ hji]
        exact hU3
      · refine .inr ⟨hh, hS3, ih L S (listed.setIfInBounds j true) a' w'' hcl hL hfree' (ready_mono hr (Ne.symm hji)) hyq hS3 ?_⟩
        rw [Array.setIfInBounds_comm _ _ hji]
        exact hU3
end
def Hn.isPure : Hn → Bool
  | .p => true
  | .w _ => true
  | .eq => true
  | .sk => true
  | .cl => true
  | _ => false
def notIn (i : Nat) : List Nat → Bool
  | [] => true
  | j :: l => !(Nat.beq j i) && notIn i l
theorem notIn_spec {i : Nat} : ∀ {l : List Nat}, notIn i l = true → i ∉ l
  | [], _ => by simp
  | j :: l, h => by
    simp only [notIn, Bool.and_eq_true, Bool.not_eq_true'] at h
    simp only [List.mem_cons, not_or]
    exact ⟨fun e => Nat.ne_of_beq_eq_false h.1 e.symm, notIn_spec h.2⟩
def drawOk (ops : Array Oper) (L : List Nat) : List Hn → List Nat → Array Bool → Bool
  | [], [], _ => true
  | .o :: hs, l, listed => drawOk ops L hs l listed
  | h :: hs, i :: l, listed => (takeOk ops listed i && closedB ops listed) && (waits ops L i || (h.isPure && notIn i L)) && drawOk ops L hs l (listed.setIfInBounds i true)
  | _, _, _ => false
def markAll (listed : Array Bool) : List Nat → Array Bool
  | [] => listed
  | i :: l => markAll (listed.setIfInBounds i true) l
def opsAt (ops : Array Oper) : List Nat → List Oper
  | [] => []
  | i :: l => match ops[i]? with | some o => o :: opsAt ops l | none => []
def calm : List Hn → Bool
  | [] => true
  | .st _ :: _ => false
  | .al :: _ => false
  | _ :: l => calm l
section
variable {P : Program} {Q : Exit → Act → World → Prop} {n : Nat} {env : Env} {w0 : World} {S : List Nat} {H : List Item} {ops : Array Oper} {K : Act → World → Prop} {l : List Oper} {o : Oper} {f : Nat} {L : List Nat} {listed : Array Bool}
theorem A.draw2' {id : Nat} (L : List Nat) (hm : P.follows .mixedOrders = true) (h : A n env w0 S H (U2 P l.toArray (Q .normal) l.length L (HS w0 S H) (Array.replicate l.length false))) :
    A n env w0 S H ((Code.region id l.toArray true).wp P Q) := fun a w r s =>
  wp_region_any hm (U2.sound _ _ _ _ _ _ (by simpa using h a _ r (s.kept (Fr.drew _ _))))
theorem A.draw2 {id : Nat} (L : List Nat) (k : Nat) (hk : (Nat.beq l.length k && P.follows .mixedOrders) = true) (h : A n env w0 S H (U2 P l.toArray (Q .normal) k L (HS w0 S H) (Array.replicate k false))) :
    A n env w0 S H ((Code.region id l.toArray true).wp P Q) := by
  simp only [Bool.and_eq_true] at hk
  obtain rfl := Nat.eq_of_beq_eq_true hk.1
  exact A.draw2' L hk.2 h
theorem quiet_of {base : Env} {fs : List Fm} {a : Act} {v : Value} (hr : Ri n base fs a) (hg : guardOk ops base fs o = true) (hq : cur fs = true → Qt P n (V.full base fs) w0 S H o v) : Quiet P ops (HS w0 S H) o (bif cur fs then v else undef) a := by
  cases hc : cur fs with
  | true => exact .inl ⟨by rw [hr.wanted hg, hc], fun w s => hq hc a w (hr.full hc) s⟩
  | false => exact .inr ⟨by rw [hr.wanted hg, hc], rfl⟩
theorem take_core {i : Nat} {v : Value} {a : Act} {w : World} (hi : ops[i]? = some o) (ht : (takeOk ops listed i && closedB ops listed) = true) (hL : waits ops L i = true) (hq : Quiet P ops (HS w0 S H) o v a) (s : HS w0 S H w)
    (h : U2 P ops K f L (HS w0 S H) (listed.setIfInBounds i true) (a.put o.dst v) w) : U2 P ops K (f + 1) L (HS w0 S H) listed a w := by
  simp only [takeOk, Bool.and_eq_true] at ht
  exact U2.first hi (Region.noSelect_spec ht.1.2) (fun w w' hw hf => hw.kept hf) hL f listed a w (closedB_spec ht.2) (Region.free_spec hi ht.1.1.1) (by simpa using ht.1.1.2) hq s h
theorem take_coreP {i : Nat} {v : Value} {a : Act} {w : World} (hi : ops[i]? = some o) (ht : (takeOk ops listed i && closedB ops listed) = true) (hL : notIn i L = true) (hq : Quiet P ops (fun _ => True) o v a) (s : HS w0 S H w)
    (h : U2 P ops K f L (HS w0 S H) (listed.setIfInBounds i true) (a.put o.dst v) w) : U2 P ops K (f + 1) L (HS w0 S H) listed a w := by
  simp only [takeOk, Bool.and_eq_true] at ht
  exact U2.firstP hi (Region.noSelect_spec ht.1.2) f L (HS w0 S H) listed a w (fun w w' hw hf => hw.kept hf) (notIn_spec hL) (Region.free_spec hi ht.1.1.1) (by simpa using ht.1.1.2) hq s h
theorem quietV_pure {clean : Bool} {h : Hn} {q : Qv} {κ : Cx} (hp : h.isPure = true) (hq : quietV P H clean env o h = some q) (hc : ∀ c, q.c = some c → c κ) {a : Act} {w : World} (r : Rep n env a) : quietUpon P w q.v ((execOp a.eval o).run P w) := by
  cases h with
  | p =>
    simp only [quietV] at hq
    split at hq
    · rename_i hok
      split at hq
      · rename_i v hv
        simp at hq; subst hq
        refine qt_pure (n := n) (w0 := w) (S := []) (H := []) hok (fun w => ?_) a w r (HS.nil w)
        unfold pureV at hv
        split at hv
        · rename_i u hu; simp at hv; subst hv; exact pureRun_run _ _ hu w
        · cases hv
      · cases hq
    · cases hq
  | w e' =>
    simp only [quietV] at hq
    split at hq
    · rename_i hok
      split at hq
      · rename_i k e hv
        simp at hq; subst hq
        have he : e = e' := hc _ rfl
        subst he
        refine qt_pure (n := n) (w0 := w) (S := []) (H := []) hok (fun w => ?_) a w r (HS.nil w)
        unfold pureV at hv
        split at hv
        · rename_i u hu; simp at hv; subst hv; exact pureRun_run _ _ hu w
        · cases hv
      · cases hq
    · cases hq
  | eq =>
    simp only [quietV] at hq
    split at hq
    · rename_i t x y ty ho
      split at hq
      · rename_i v hv; simp at hq; subst hq; exact quietEq_eql (n := n) (w0 := w) (S := []) (H := []) ho hv a w r (HS.nil w)
      · cases hq
    · rename_i t x y ty ho
      split at hq
      · rename_i v hv; simp at hq; subst hq; exact quietEq_neq (n := n) (w0 := w) (S := []) (H := []) ho hv a w r (HS.nil w)
      · cases hq
    · cases hq
  | _ => simp [Hn.isPure] at hp <;> simp [quietV] at hq
theorem X_draw {ids : List Nat} {Hc : List Item} : ∀ (hs : List Hn) (order : List Nat) (listed : Array Bool) (base : Env) (fs : List Fm) (clean : Bool), calm hs = true → drawOk ops L hs order listed = true → (clean = true → Hc = H) → (opsAt ops order).length = order.length →
    (∃ r, X P ops n ids hs (opsAt ops order) [] base fs H clean = some r ∧ Good P n w0 S Hc (U2 P ops K f L (HS w0 S H) (markAll listed order)) r) →
    ∀ a w, Ri n base fs a → HS w0 S H w → U2 P ops K (f + order.length) L (HS w0 S H) listed a w := by
  intro hs
  induction hs with
  | nil =>
    intro order listed base fs clean _ hd hcl hlen ⟨r, hX, hG⟩ a w hr hsp
    cases order with
    | cons i order =>
      cases hi : ops[i]? with
      | none => simp [opsAt, hi] at hlen
      | some o => simp [opsAt, hi, X] at hX
    | nil =>
      simp only [opsAt] at hX
      cases fs with
      | cons f fs => simp [X] at hX
      | nil =>
        simp only [X] at hX
        cases hk : keepE base ids with
        | none => rw [hk] at hX; simp at hX
        | some e =>
          rw [hk] at hX
          simp at hX; subst hX
          exact hG.go a w (keepE_rep hr hk) hsp
  | cons h hs ih =>
    intro order listed base fs clean hcalm hd hcl hlen ⟨r, hX, hG⟩ a w hr hsp
    cases order with
    | nil => cases h <;> simp [opsAt, X] at hX
    | cons i order =>
      cases hi : ops[i]? with
      | none => simp [opsAt, hi] at hlen
      | some o =>
        have hlen' : (opsAt ops order).length = order.length := by simpa [opsAt, hi] using hlen
        have hd0 := hd
        simp only [opsAt, hi] at hX
        have simpX : h ≠ .o → calm hs = true → (match guardOk ops base fs o && slotOk n base fs o.dst with
            | true => (match quietV P H clean (V.full base fs) o h with
              | some q => (match X P ops n ids hs (opsAt ops order) [] (putB base fs o.dst q.v) (putF fs o.dst q.v) H clean with
                | some r => some (r.add fs q)
                | none => none)
              | none => none)
            | false => none) = some r → U2 P ops K (f + (i :: order).length) L (HS w0 S H) listed a w := by
          intro hno hcalm hX
          have hd : ((takeOk ops listed i && closedB ops listed) && (waits ops L i || (h.isPure && notIn i L)) && drawOk ops L hs order (listed.setIfInBounds i true)) = true := by
            cases h <;> first | exact absurd rfl hno | exact hd
          obtain ⟨hd1, hd⟩ := Bool.and_eq_true_iff.1 hd
          obtain ⟨ht, hw⟩ := Bool.and_eq_true_iff.1 hd1
          split at hX
          case h_2 => cases hX
          rename_i hgs
          simp only [Bool.and_eq_true] at hgs
          split at hX
          case h_2 => cases hX
          rename_i q hq
          split at hX
          case h_2 => cases hX
          rename_i r' hr'
          simp at hX; subst hX
          have hk : U2 P ops K (f + order.length) L (HS w0 S H) (listed.setIfInBounds i true) (a.put o.dst (bif cur fs then q.v else undef)) w :=
            ih order _ _ _ clean hcalm hd hcl hlen' ⟨r', hr', hG.tail.1⟩ _ w (hr.put hgs.2) hsp
          rcases Bool.or_eq_true_iff.1 hw with hw | hw
          · exact take_core hi ht hw (quiet_of hr hgs.1 (fun hc => quietV_sound (Hc := Hc) hq hG.tail.2.1 (hG.tail.2.2 hc) hcl)) hsp hk
          · obtain ⟨hp, hw⟩ := Bool.and_eq_true_iff.1 hw
            refine take_coreP hi ht hw ?_ hsp hk
            cases hc : cur fs with
            | true => exact .inl ⟨by rw [hr.wanted hgs.1, hc], fun w _ => quietV_pure hp hq (hG.tail.2.2 hc) (hr.full hc)⟩
            | false => exact .inr ⟨by rw [hr.wanted hgs.1, hc], rfl⟩
        cases h with
        | p | w e | eq | es | ld j | rd vs | ix | cq v | ct | si u | ss => simp only [X] at hX; exact simpX (by simp) (by simpa [calm] using hcalm) hX
        | st j | al => simp [calm] at hcalm
        | o =>
          simp only [X] at hX
          split at hX
          case h_2 => cases hX
          rename_i j pol hgd
          split at hX
          case h_2 => cases hX
          rename_i d hdd
          split at hX
          case h_2 => cases hX
          rename_i E hE
          exact ih (i :: order) listed base _ clean (by simpa [calm] using hcalm) hd0 hcl hlen ⟨r, by simp only [opsAt, hi]; exact hX, hG⟩ a w (hr.open_ hE) hsp
        | cl =>
          obtain ⟨hd1, hd⟩ := Bool.and_eq_true_iff.1 (show ((takeOk ops listed i && closedB ops listed) && (waits ops L i || (Hn.cl.isPure && notIn i L)) && drawOk ops L hs order (listed.setIfInBounds i true)) = true from hd)
          obtain ⟨ht, hw⟩ := Bool.and_eq_true_iff.1 hd1
          cases fs with
          | nil => simp [X] at hX
          | cons f1 fs =>
            simp only [X] at hX
            split at hX
            case h_2 => cases hX
            rename_i hgs
            simp only [Bool.and_eq_true] at hgs
            split at hX
            case h_2 => cases hX
            rename_i v hv
            have hq : ∀ SS : World → Prop, Quiet P ops SS o (bif cur fs then v else undef) a := fun SS => by
              cases hc : cur fs with
              | true =>
                refine .inl ⟨by rw [hr.1.wanted hgs.1, hc], fun w s => ?_⟩
                rw [closeV_sound hr hc hv w]
                exact ⟨rfl, Fr.refl _ _⟩
              | false => exact .inr ⟨by rw [hr.1.wanted hgs.1, hc], rfl⟩
            have hk : U2 P ops K (f + order.length) L (HS w0 S H) (listed.setIfInBounds i true) (a.put o.dst (bif cur fs then v else undef)) w :=
              ih order _ _ _ clean (by simpa [calm] using hcalm) hd hcl hlen' ⟨r, hX, hG⟩ _ w (hr.1.put hgs.2) hsp
            rcases Bool.or_eq_true_iff.1 hw with hw | hw
            · exact take_core hi ht hw (hq _) hsp hk
            · exact take_coreP hi ht (Bool.and_eq_true_iff.1 hw).2 (hq _) hsp hk
        | sk =>
          obtain ⟨hd1, hd⟩ := Bool.and_eq_true_iff.1 (show ((takeOk ops listed i && closedB ops listed) && (waits ops L i || (Hn.sk.isPure && notIn i L)) && drawOk ops L hs order (listed.setIfInBounds i true)) = true from hd)
          obtain ⟨ht, hw⟩ := Bool.and_eq_true_iff.1 hd1
          simp only [X] at hX
          split at hX
          case h_2 => cases hX
          rename_i hwt hsl
          have hq : ∀ SS : World → Prop, Quiet P ops SS o undef a := fun SS => .inr ⟨wanted_of hr hwt, rfl⟩
          have hk : U2 P ops K (f + order.length) L (HS w0 S H) (listed.setIfInBounds i true) (a.put o.dst undef) w :=
            ih order _ _ [] clean (by simpa [calm] using hcalm) hd hcl hlen' ⟨r, hX, hG⟩ _ w (Ri.put (fs := []) (v := undef) hr hsl) hsp
          rcases Bool.or_eq_true_iff.1 hw with hw | hw
          · exact take_core hi ht hw (hq _) hsp hk
          · exact take_coreP hi ht (Bool.and_eq_true_iff.1 hw).2 (hq _) hsp hk
/-- some operations, in this order -/
theorem A.drawP {f' : Nat} (f : Nat) (hs : List Hn) (order : List Nat) (env' : Env) (l : List Nat) (C : Cx → Prop)
    (hx : (calm hs && drawOk ops L hs order listed && Nat.beq (opsAt ops order).length order.length && Nat.beq f' (f + order.length), X P ops n (ids env') hs (opsAt ops order) [] env [] H true) = (true, some ⟨env', H, dup l, C⟩))
    (hc : C ⟨P, w0, S, H⟩) (h : A n env' w0 S H (U2 P ops K f L (HS w0 S H) (markAll listed order))) : A n env w0 S H (U2 P ops K f' L (HS w0 S H) listed) := by
  intro a w r s
  simp only [Prod.mk.injEq, Bool.and_eq_true] at hx
  have hf := Nat.eq_of_beq_eq_true hx.1.2
  rw [hf]
  exact X_draw (Hc := H) hs order listed env [] true hx.1.1.1.1 hx.1.1.1.2 (fun _ => rfl) (Nat.eq_of_beq_eq_true hx.1.1.2) ⟨_, hx.2, dup_ok, hc, h⟩ a w r s
/-- .. all of them -/
theorem A.drawA {id : Nat} (hs : List Hn) (order : List Nat) (env' : Env) (l2 : List Nat) (C : Cx → Prop) (hm : P.follows .mixedOrders = true)
    (hx : (calm hs && drawOk l.toArray [] hs order (Array.replicate l.length false) && Nat.beq (opsAt l.toArray order).length order.length && Nat.beq order.length l.length && (Region.ready .any l.toArray (markAll (Array.replicate l.length false) order)).isEmpty,
      X P l.toArray n (ids env') hs (opsAt l.toArray order) [] env [] H true) = (true, some ⟨env', H, dup l2, C⟩))
    (hc : C ⟨P, w0, S, H⟩) (h : A n env' w0 S H (Q .normal)) : A n env w0 S H ((Code.region id l.toArray true).wp P Q) := by
  refine A.draw2' [] hm ?_
  intro a w r s
  simp only [Prod.mk.injEq, Bool.and_eq_true] at hx
  have hl := Nat.eq_of_beq_eq_true hx.1.1.2
  have := X_draw (Hc := H) (K := Q .normal) (f := 0) (L := []) hs order (Array.replicate l.length false) env [] true hx.1.1.1.1.1 hx.1.1.1.1.2 (fun _ => rfl) (Nat.eq_of_beq_eq_true hx.1.1.1.2) ⟨_, hx.2, dup_ok, hc, ?_⟩ a w r s
  · rw [Nat.zero_add, hl] at this; exact this
  · intro a w r s
    refine ⟨by simpa using hx.1.2, fun w' hf => h a w' r (s.kept hf)⟩
/-- one quiet operation -/
theorem A.take2 (i : Nat) (d : Option Nat) (v : Value) (hi : ops[i]? = some o) (ht : ((takeOk ops listed i && closedB ops listed) && waits ops L i) = true) (hok : headOk ops n env o d = true) (hq : Qt P n env w0 S H o v)
    (h : A n (putE env d v) w0 S H (U2 P ops K f L (HS w0 S H) (listed.setIfInBounds i true))) : A n env w0 S H (U2 P ops K (f + 1) L (HS w0 S H) listed) := by
  intro a w r s
  obtain ⟨h1, h2, h3, _⟩ := headOk_spec hok
  obtain ⟨ht1, ht2⟩ := Bool.and_eq_true_iff.1 ht
  refine take_core hi ht1 ht2 (.inl ⟨wanted_of r h1, fun w' s' => hq a w' r s'⟩) s ?_
  rw [h2]
  exact h _ w (r.putE h3) s
/-- the operation that writes, when it alone may come up -/
theorem A.only2 (i : Nat) (hi : ops[i]? = some o) (hr : Region.ready .any ops listed = [i])
    (h : A n env w0 S H (Step P ops o (fun a w => ∃ S' : World → Prop, (∀ w w', S' w → Fr [] w w' → S' w') ∧ S' w ∧ U2 P ops K f L S' (listed.setIfInBounds i true) a w))) : A n env w0 S H (U2 P ops K (f + 1) (i :: L) (HS w0 S H) listed) := by
  intro a w r s
  refine ⟨fun h0 => (by rw [hr] at h0; cases h0), fun j hj w' hf => ?_⟩
  rw [hr, List.mem_singleton] at hj
  subst hj
  have h1 := h a w' r (s.kept hf)
  unfold Step at h1
  unfold wpOp
  simp only [hi]
  split
  · rename_i hw; rw [if_pos hw] at h1; exact .inl (Oper.wp_imp h1 fun _ _ h => .inl ⟨rfl, h⟩)
  · rename_i hw; rw [if_neg hw] at h1; exact .inl ⟨rfl, h1⟩
/-- a quiet one and the one that writes: in either order -/
theorem A.fork2 (i j : Nat) {o' : Oper} (hi : ops[i]? = some o) (hj : ops[j]? = some o') (hr : (Region.ready .any ops listed, Nat.beq i j) = ([i, j], false))
    (h1 : A n env w0 S H (Step P ops o (fun a w => HS w0 S H w ∧ U2 P ops K f (j :: L) (HS w0 S H) (listed.setIfInBounds i true) a w)))
    (h2 : A n env w0 S H (Step P ops o' (fun a w => ∃ S' : World → Prop, (∀ w w', S' w → Fr [] w w' → S' w') ∧ S' w ∧ U2 P ops K f L S' (listed.setIfInBounds j true) a w))) : A n env w0 S H (U2 P ops K (f + 1) (j :: L) (HS w0 S H) listed) := by
  intro a w r s
  simp only [Prod.mk.injEq] at hr
  refine ⟨fun h0 => (by rw [hr.1] at h0; cases h0), fun m hm w' hf => ?_⟩
  have hij := Nat.ne_of_beq_eq_false hr.2
  rw [hr.1] at hm
  simp only [List.mem_cons, List.not_mem_nil, or_false] at hm
  rcases hm with rfl | rfl
  · have h := h1 a w' r (s.kept hf)
    unfold Step at h
    unfold wpOp
    simp only [hi]
    split
    · rename_i hw; rw [if_pos hw] at h; exact .inl (Oper.wp_imp h fun _ _ h => .inr ⟨by simpa using fun e => hij e.symm, h⟩)
    · rename_i hw; rw [if_neg hw] at h; exact .inr ⟨by simpa using fun e => hij e.symm, h⟩
  · have h := h2 a w' r (s.kept hf)
    unfold Step at h
    unfold wpOp
    simp only [hj]
    split
    · rename_i hw; rw [if_pos hw] at h; exact .inl (Oper.wp_imp h fun _ _ h => .inl ⟨rfl, h⟩)
    · rename_i hw; rw [if_neg hw] at h; exact .inl ⟨rfl, h⟩
theorem A.stage (h : A n env w0 S H (U2 P ops K f L (HS w0 S H) listed)) : A n env w0 S H (fun a w => ∃ S' : World → Prop, (∀ w w', S' w → Fr [] w w' → S' w') ∧ S' w ∧ U2 P ops K f L S' listed a w) := fun a w r s => ⟨HS w0 S H, fun _ _ hw hf => hw.kept hf, s, h a w r s⟩
theorem A.fin2 (hr : Region.ready .any ops listed = []) (h : A n env w0 S H K) : A n env w0 S H (U2 P ops K f L (HS w0 S H) listed) := by
  intro a w r s
  cases f with
  | zero => exact ⟨hr, fun w' hf => h a w' r (s.kept hf)⟩
  | succ f => exact ⟨fun _ w' hf => h a w' r (s.kept hf), by rw [hr]; simp⟩
end
end Go.Proofs.YtaacfehlcdkdhaaGreatDoor.V
