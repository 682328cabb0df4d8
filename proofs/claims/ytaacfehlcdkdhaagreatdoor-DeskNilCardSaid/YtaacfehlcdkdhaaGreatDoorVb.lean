/- My own verifier's rules: control, single operations, calls, loops. Generic: nothing of the dump. -/
import Derived.Test.YtaacfehlcdkdhaaGreatDoorVa
namespace Go.Proofs.YtaacfehlcdkdhaaGreatDoor.V
open Go

section control
variable {P : Program} {Q : Exit → Act → World → Prop} {n : Nat} {env : Env} {w0 : World} {S : List Nat} {H : List Item}

theorem A.mono {G G' : Act → World → Prop} (h : A n env w0 S H G) (hg : ∀ a w, G a w → G' a w) : A n env w0 S H G' := fun a w r s => hg a w (h a w r s)
theorem A.sub {G : Act → World → Prop} (env' : Env) (hs : V.sub env env') (h : A n env' w0 S H G) : A n env w0 S H G := fun a w r s => h a w (r.sub hs) s
theorem A.items {G : Act → World → Prop} (K : List Item) (hp : List.Sublist K H) (h : A n env w0 S K G) : A n env w0 S H G := fun a w r s => h a w r (s.sub hp)
theorem A.permute {G : Act → World → Prop} (K : List Item) (hp : List.Perm H K) (h : A n env w0 S K G) : A n env w0 S H G := fun a w r s => h a w r (s.perm hp)
theorem A.norm {G : Act → World → Prop} (env' : Env) (K : List Item) (hs : V.sub env env') (hk : H = K) (h : A n env' w0 S K G) : A n env w0 S H G := by subst hk; exact fun a w r s => h a w (r.sub hs) s
theorem A.bool {G : Act → World → Prop} (E : Bool) (ht : E = true → A n env w0 S H G) (hf : E = false → A n env w0 S H G) : A n env w0 S H G := by
  cases E
  · exact hf rfl
  · exact ht rfl
theorem A.have_ {G : Act → World → Prop} {p : Prop} (hp : ∀ w, HS w0 S H w → p) (h : p → A n env w0 S H G) : A n env w0 S H G := fun a w r s => h (hp w s) a w r s
theorem A.seq {x y : Code} (h : A n env w0 S H (x.wp P (Exit.then (y.wp P Q) Q))) : A n env w0 S H ((Code.seq x y).wp P Q) := fun a w r s => wp_seq (h a w r s)
theorem A.seq_cut {x y : Code} (M : Act → World → Prop) (h : A n env w0 S H (x.wp P (Exit.then M Q))) (h' : ∀ a w, M a w → y.wp P Q a w) : A n env w0 S H ((Code.seq x y).wp P Q) :=
  fun a w r s => wp_seq (wp_mono (h a w r s) fun e a w hq => by cases e <;> first | exact h' a w hq | exact hq)
theorem A.tn {K : Act → World → Prop} (h : A n env w0 S H K) : A n env w0 S H (Exit.then K Q .normal) := h
theorem A.te {K : Act → World → Prop} {i : Nat} (h : A n env w0 S H (Q (.exit i))) : A n env w0 S H (Exit.then K Q (.exit i)) := h
theorem A.tr {K : Act → World → Prop} (h : A n env w0 S H (Q .ret)) : A n env w0 S H (Exit.then K Q .ret) := h
theorem A.tg {K : Act → World → Prop} {i : Nat} (h : A n env w0 S H (Q (.goto i))) : A n env w0 S H (Exit.then K Q (.goto i)) := h
theorem A.bn {id : Nat} (h : A n env w0 S H (Q .normal)) : A n env w0 S H (Exit.inBlock id Q .normal) := h
theorem A.br {id : Nat} (h : A n env w0 S H (Q .ret)) : A n env w0 S H (Exit.inBlock id Q .ret) := h
theorem A.bh {id : Nat} (h : A n env w0 S H (Q .normal)) : A n env w0 S H (Exit.inBlock id Q (.exit id)) := fun a w r s => by simp only [Exit.inBlock, if_true]; exact h a w r s
theorem A.bm {id i : Nat} (hne : Nat.beq i id = false) (h : A n env w0 S H (Q (.exit i))) : A n env w0 S H (Exit.inBlock id Q (.exit i)) := fun a w r s => by
  simp only [Exit.inBlock, if_neg (Nat.ne_of_beq_eq_false hne)]; exact h a w r s
theorem A.gn (h : A n env w0 S H (Q .normal)) : A n env w0 S H (Exit.noGoto Q .normal) := h
theorem A.gr (h : A n env w0 S H (Q .ret)) : A n env w0 S H (Exit.noGoto Q .ret) := h
theorem A.ge {i : Nat} (h : A n env w0 S H (Q (.exit i))) : A n env w0 S H (Exit.noGoto Q (.exit i)) := h
theorem A.skip (h : A n env w0 S H (Q .normal)) : A n env w0 S H (Code.skip.wp P Q) := fun a w r s => wp_skip (h a w r s)
theorem A.label {l : Nat} (h : A n env w0 S H (Q .normal)) : A n env w0 S H ((Code.label l).wp P Q) := fun a w r s => wp_label (h a w r s)
theorem A.exit {i : Nat} (h : A n env w0 S H (Q (.exit i))) : A n env w0 S H ((Code.exit i).wp P Q) := fun a w r s => wp_exit (h a w r s)
theorem A.ret (h : A n env w0 S H (Q .ret)) : A n env w0 S H (Code.ret.wp P Q) := fun a w r s => wp_ret (h a w r s)
theorem A.block {id : Nat} {c : Code} (h : A n env w0 S H (c.wp P (Exit.inBlock id Q))) : A n env w0 S H ((Code.block id c).wp P Q) := fun a w r s => wp_block (h a w r s)
theorem A.scope {c : Code} (h : A n env w0 S H (c.wp P (Exit.noGoto Q))) : A n env w0 S H ((Code.scope c).wp P Q) := fun a w r s => wp_scope_straight (h a w r s)
theorem A.cond {c : Operand} {x y : Code} {E : Bool} (hc : ev env c = some (.bool E)) (ht : E = true → A n env w0 S H (x.wp P Q)) (hf : E = false → A n env w0 S H (y.wp P Q)) : A n env w0 S H ((Code.cond c x y).wp P Q) :=
  fun a w r s => wp_cond_split (t := E) (r.ev hc) (fun e => ht e a w r s) (fun e => hf e a w r s)
theorem A.cond_t {c : Operand} {x y : Code} (hc : ev env c = some (.bool true)) (ht : A n env w0 S H (x.wp P Q)) : A n env w0 S H ((Code.cond c x y).wp P Q) :=
  fun a w r s => wp_cond_true (r.ev hc) (ht a w r s)
theorem A.cond_f {c : Operand} {x y : Code} (hc : ev env c = some (.bool false)) (hf : A n env w0 S H (y.wp P Q)) : A n env w0 S H ((Code.cond c x y).wp P Q) :=
  fun a w r s => wp_cond_false (r.ev hc) (hf a w r s)
theorem A.region {id : Nat} {l : List Oper} (h : A n env w0 S H (wpList P l.toArray Q l)) : A n env w0 S H ((Code.region id l.toArray false).wp P Q) := fun a w r s => wp_region_lit (h a w r s)
theorem A.done {ops : Array Oper} (h : A n env w0 S H (Q .normal)) : A n env w0 S H (wpList P ops Q []) := h

/-- a loop: the state is told by x; a round lowers the measure -/
theorem A.loop {σ : Type} {c : Code} (envf : σ → Env) (Hf : σ → List Item) (φ : σ → Prop) (μ : σ → Nat) (x0 : σ) (h0 : φ x0)
    (hstart : A n env w0 S H (fun a w => Rep n (envf x0) a ∧ HS w0 S (Hf x0) w))
    (round : ∀ x, φ x → A n (envf x) w0 S (Hf x) (c.wp P (Exit.then (fun a w => ∃ y, φ y ∧ μ y < μ x ∧ Rep n (envf y) a ∧ HS w0 S (Hf y) w) Q))) :
    A n env w0 S H ((Code.loop c).wp P Q) := by
  intro a0 w00 r0 s0
  intro b k cs
  have key : ∀ m x a w, μ x = m → φ x → Rep n (envf x) a → HS w0 S (Hf x) w →
      ∃ e a' w', Q e a' w' ∧ Arrives P (lone (b.at a (.code c :: .inLoop c :: k)) cs w) b k cs e a' w' := by
    intro m
    induction m using Nat.strongRecOn with
    | _ m ih =>
      intro x a w hm hx hr hs
      obtain ⟨e, a₁, w₁, hq, harr⟩ := round x hx a w hr hs b (.inLoop c :: k) cs
      cases e with
      | normal =>
        obtain ⟨y, hy, hlt, hr1, hs1⟩ := hq
        obtain ⟨e₂, a₂, w₂, hq₂, harr₂⟩ := ih (μ y) (hm ▸ hlt) y a₁ w₁ rfl hy hr1 hs1
        exact ⟨e₂, a₂, w₂, hq₂, .of_steps (Steps.trans harr (.one step_inLoop)) harr₂⟩
      | exit id => exact ⟨_, a₁, w₁, hq, .pass (x := .inLoop c) rfl (fun _ _ => .inl (by simp)) harr⟩
      | goto l => exact ⟨_, a₁, w₁, hq, .pass (x := .inLoop c) rfl (fun _ _ => .inl (by simp)) harr⟩
      | ret => exact ⟨_, a₁, w₁, hq, .pass (x := .inLoop c) rfl (fun _ _ => .inl (by simp)) harr⟩
      | panic ch => exact ⟨_, a₁, w₁, hq, .pass (x := .inLoop c) rfl (fun _ _ => .inl (by simp)) harr⟩
      | outgrown => exact ⟨_, a₁, w₁, hq, .pass (x := .inLoop c) rfl (fun _ _ => .inl (by simp)) harr⟩
  obtain ⟨hr, hs⟩ := hstart a0 w00 r0 s0
  obtain ⟨e, a', w', hq, harr⟩ := key _ x0 a0 w00 rfl h0 hr hs
  exact ⟨e, a', w', hq, .of_steps (.one step_loop) harr⟩
/-- the end of a round, the start of a loop, a cut: the state named -/
theorem A.here {env' : Env} (hs : V.sub env env') {K : List Item} (hk : List.Sublist K H) : A n env w0 S H (fun a w => Rep n env' a ∧ HS w0 S K w) := fun _ _ r s => ⟨r.sub hs, s.sub hk⟩
theorem A.hereP {env' : Env} (hs : V.sub env env') {K : List Item} (hk : List.Perm H K) : A n env w0 S H (fun a w => Rep n env' a ∧ HS w0 S K w) := fun _ _ r s => ⟨r.sub hs, s.perm hk⟩
theorem A.next {σ : Type} {envf : σ → Env} {Hf : σ → List Item} {φ : σ → Prop} {μ : σ → Nat} {m : Nat} (y : σ) (hy : φ y) (hlt : μ y < m) (h : A n env w0 S H (fun a w => Rep n (envf y) a ∧ HS w0 S (Hf y) w)) :
    A n env w0 S H (fun a w => ∃ y, φ y ∧ μ y < m ∧ Rep n (envf y) a ∧ HS w0 S (Hf y) w) := fun a w r s => ⟨y, hy, hlt, h a w r s⟩
/-- a cut with a state told by x -/
theorem A.cutx {σ : Type} {x y : Code} (envf : σ → Env) (Hf : σ → List Item) (φ : σ → Prop)
    (h : A n env w0 S H (x.wp P (Exit.then (fun a w => ∃ z, φ z ∧ Rep n (envf z) a ∧ HS w0 S (Hf z) w) Q)))
    (h' : ∀ z, φ z → A n (envf z) w0 S (Hf z) (y.wp P Q)) : A n env w0 S H ((Code.seq x y).wp P Q) :=
  A.seq_cut (fun a w => ∃ z, φ z ∧ Rep n (envf z) a ∧ HS w0 S (Hf z) w) h fun a w ⟨z, hz, r, s⟩ => h' z hz a w r s
theorem A.meet {σ : Type} {envf : σ → Env} {Hf : σ → List Item} {φ : σ → Prop} (z : σ) (hz : φ z) (h : A n env w0 S H (fun a w => Rep n (envf z) a ∧ HS w0 S (Hf z) w)) :
    A n env w0 S H (fun a w => ∃ z, φ z ∧ Rep n (envf z) a ∧ HS w0 S (Hf z) w) := fun a w r s => ⟨z, hz, h a w r s⟩
end control

/-! ### single operations -/
def wantedE (ops : Array Oper) (env : Env) (o : Oper) : Option Bool :=
  match o.guard with
  | none => some true
  | some (j, b) => match ((ops[j]?).bind (·.dst)).bind (look env) with
    | some (.bool c) => some (c == b)
    | some (.tuple _) => some false
    | _ => none
theorem wanted_of {n : Nat} {env : Env} {ops : Array Oper} {o : Oper} {b : Bool} {a : Act} (r : Rep n env a) (h : wantedE ops env o = some b) : Region.wanted o (yielded ops a.tmps) = b := by
  unfold wantedE at h
  unfold Region.wanted
  cases hg : o.guard with
  | none => rw [hg] at h; simpa using h
  | some p =>
    obtain ⟨j, c⟩ := p
    rw [hg] at h
    simp only at h ⊢
    cases hd : (ops[j]?).bind (·.dst) with
    | none => rw [hd] at h; simp at h
    | some d =>
      rw [hd] at h
      simp only [Option.bind_some] at h
      cases hl : look env d with
      | none => rw [hl] at h; simp at h
      | some v =>
        rw [hl] at h
        have hget := r.get d _ hl
        cases v <;> simp at h
        case bool e =>
          have : a.tmps[d]? = some (.bool e) := by
            rw [Array.getD_eq_getD_getElem?] at hget
            cases hx : a.tmps[d]? with
            | none => rw [hx] at hget; simp [undef] at hget
            | some u => rw [hx] at hget; simp at hget; rw [hget]
          simp only [yielded, hd, Option.bind_some, this]
          subst h
          cases e <;> cases c <;> rfl
        case tuple vs =>
          have : yielded ops a.tmps j = none := by
            rw [Array.getD_eq_getD_getElem?] at hget
            simp only [yielded, hd, Option.bind_some]
            cases hx : a.tmps[d]? with
            | none => rfl
            | some u => rw [hx] at hget; simp at hget; rw [hget]
          rw [this]; simp [h]

def okOps (env : Env) (o : Oper) : Bool := o.op.operands.toList.all (fun x => (ev env x).isSome) && (match o.op with | .select .. => false | _ => true)
theorem execOp_env {n : Nat} {env : Env} {o : Oper} {a : Act} (r : Rep n env a) (h : okOps env o = true) : execOp a.eval o = execOp (evD env) o := by
  simp only [okOps, Bool.and_eq_true] at h
  refine execOp_congr o (fun cs b hs => by rw [hs] at h; simp at h) fun x hx => ?_
  have := List.all_eq_true.1 h.1 x (by simpa using hx)
  obtain ⟨v, hv⟩ := Option.isSome_iff_exists.1 this
  rw [r.ev hv]; simp [evD, hv]
def headOk (ops : Array Oper) (n : Nat) (env : Env) (o : Oper) (d : Option Nat) : Bool :=
  (match wantedE ops env o with | some b => b | none => false) && (match o.dst, d with | some x, some y => Nat.beq x y && Nat.blt y n | none, none => true | _, _ => false) && okOps env o
theorem headOk_spec {ops : Array Oper} {n : Nat} {env : Env} {o : Oper} {d : Option Nat} (h : headOk ops n env o d = true) : wantedE ops env o = some true ∧ o.dst = d ∧ (∀ x, d = some x → x < n) ∧ okOps env o = true := by
  simp only [headOk, Bool.and_eq_true] at h
  obtain ⟨⟨h1, h2⟩, h3⟩ := h
  refine ⟨?_, ?_, ?_, h3⟩
  · cases hw : wantedE ops env o with
    | none => rw [hw] at h1; simp at h1
    | some b => rw [hw] at h1; simp only at h1; rw [h1]
  · cases ho : o.dst <;> cases d <;> rw [ho] at h2 <;> simp only [Bool.and_eq_true] at h2 <;> first | rfl | (cases h2; done) | skip
    exact congrArg some (Nat.eq_of_beq_eq_true h2.1)
  · intro x hx
    subst hx
    cases ho : o.dst <;> rw [ho] at h2 <;> simp only [Bool.and_eq_true] at h2
    · cases h2
    · exact Nat.le_of_ble_eq_true h2.2

def putE (env : Env) : Option Nat → Value → Env
  | some d, v => (d, v) :: env
  | none, _ => env
theorem Rep.putE {n : Nat} {env : Env} {a : Act} {d : Option Nat} {v : Value} (h : Rep n env a) (hd : ∀ x, d = some x → x < n) : Rep n (putE env d v) (a.put d v) := by
  cases d with
  | none => exact h
  | some d => exact h.put (hd d rfl)

def Qf : Exit → Act → World → Prop := fun _ _ _ => False
/-- an operation, and then K; it does not panic -/
def Step (P : Program) (ops : Array Oper) (o : Oper) (K : Act → World → Prop) (a : Act) (w : World) : Prop :=
  if Region.wanted o (yielded ops a.tmps) then o.wp P a w K Qf else K (a.put o.dst undef) w
theorem Oper.wp_imp {P : Program} {Q : Exit → Act → World → Prop} {o : Oper} {a : Act} {w : World} {K K' : Act → World → Prop} (h : o.wp P a w K Qf) (hk : ∀ a' w', K a' w' → K' a' w') : o.wp P a w K' Q := by
  unfold Oper.wp at *
  generalize (execOp a.eval o).run P w = r at *
  cases r with
  | ok nx w' =>
    cases nx <;> simp only [Oper.upon] at h ⊢ <;> first | exact hk _ _ h | skip
    · exact h.mono fun e w'' he => by
        cases e with
        | returned u => exact hk _ _ he
        | panicked c => exact he.elim
        | outgrown => obtain ⟨_, _, hf⟩ := he; exact hf.elim
    · exact h.mono fun v w'' he => hk _ _ he
  | halt x w' => cases x <;> simp only [Oper.upon] at h ⊢ <;> exact h.elim

/-- ONE VALUE, and no old block turned -/
def quietUpon (P : Program) (w : World) (v : Value) : Result Next → Prop
  | .ok (.value u) w' => u = v ∧ Fr [] w w'
  | .ok .skip w' => v = undef ∧ Fr [] w w'
  | .ok (.enter f args) w' => Calls P f args w' fun e w'' => e = .returned v ∧ Fr [] w w''
  | _ => False
/-- the operation yields v, from env and H -/
def Qt (P : Program) (n : Nat) (env : Env) (w0 : World) (S : List Nat) (H : List Item) (o : Oper) (v : Value) : Prop :=
  ∀ a w, Rep n env a → HS w0 S H w → quietUpon P w v ((execOp a.eval o).run P w)
theorem wp_of_quiet {P : Program} {o : Oper} {a : Act} {w : World} {v : Value} {K : Act → World → Prop} (h : quietUpon P w v ((execOp a.eval o).run P w)) (hk : ∀ w', Fr [] w w' → K (a.put o.dst v) w') : o.wp P a w K Qf := by
  unfold Oper.wp
  generalize (execOp a.eval o).run P w = r at *
  cases r with
  | ok nx w' =>
    cases nx <;> simp only [quietUpon] at h <;> simp only [Oper.upon]
    case value u => obtain ⟨rfl, hf⟩ := h; exact hk _ hf
    case skip => obtain ⟨rfl, hf⟩ := h; exact hk _ hf
    case enter f args => exact h.mono fun e w'' ⟨he, hf⟩ => by subst he; exact hk _ hf
  | halt x w' => exact h.elim

section single
variable {P : Program} {Q : Exit → Act → World → Prop} {n : Nat} {env : Env} {w0 : World} {S : List Nat} {H : List Item} {ops : Array Oper} {rest : List Oper} {o : Oper} {K : Act → World → Prop}

theorem A.cons (h : A n env w0 S H (Step P ops o (wpList P ops Q rest))) : A n env w0 S H (wpList P ops Q (o :: rest)) := by
  intro a w r s
  have h1 := h a w r s
  unfold Step at h1
  show if Region.wanted o (yielded ops a.tmps) then _ else _
  split
  · rename_i hw
    rw [if_pos hw] at h1
    exact .inl (Oper.wp_imp h1 fun _ _ h => h)
  · rename_i hw
    rw [if_neg hw] at h1
    exact h1
theorem A.jump (d : Option Nat) (hw : wantedE ops env o = some false) (hd : o.dst = d) (hn : ∀ x, d = some x → Nat.blt x n = true) (h : A n (putE env d undef) w0 S H K) : A n env w0 S H (Step P ops o K) := by
  intro a w r s
  have hw := wanted_of r hw
  unfold Step
  rw [hw, hd]
  exact h _ w (r.putE fun x hx => Nat.le_of_ble_eq_true (hn x hx)) s
/-- it yields v -/
theorem A.q (d : Option Nat) (v : Value) (hok : headOk ops n env o d = true) (hq : Qt P n env w0 S H o v) (h : A n (putE env d v) w0 S H K) : A n env w0 S H (Step P ops o K) := by
  intro a w r s
  obtain ⟨h1, h2, h3, _⟩ := headOk_spec hok
  unfold Step
  rw [if_pos (wanted_of r h1)]
  refine wp_of_quiet (hq a w r s) fun w' hf => ?_
  rw [h2]
  exact h _ w' (r.putE h3) (s.kept hf)
theorem qt_same {v : Value} (h : ∀ a w, Rep n env a → HS w0 S H w → (execOp a.eval o).run P w = .ok (.value v) w) : Qt P n env w0 S H o v := by
  intro a w r s
  rw [h a w r s]
  exact ⟨rfl, Fr.refl _ _⟩
/-- world-less: the kernel reckons it -/
theorem qt_pure {v : Value} (hok : okOps env o = true) (hv : ∀ w, (execOp (evD env) o).run P w = .ok (.value v) w) : Qt P n env w0 S H o v :=
  qt_same fun a w r _ => by rw [execOp_env r hok]; exact hv w
theorem qt_as {v v' : Value} (e : v = v') (h : Qt P n env w0 S H o v) : Qt P n env w0 S H o v' := e ▸ h
theorem qt_move {x : Operand} {v : Value} (ho : o.op = .move x) (hx : ev env x = some v) : Qt P n env w0 S H o v := qt_same fun a w r _ => by simp [execOp, ho, r.ev hx]
theorem qt_assign {x : Operand} {v : Value} (ho : o.op = .assign x) (hx : ev env x = some v) : Qt P n env w0 S H o v := qt_same fun a w r _ => by simp [execOp, ho, r.ev hx]

/-! reads -/
def isScalar (P : Program) (t : TypeId) : Bool := match P.underlying t with | some (.struct _) | some (.array _ _) => false | some _ => true | none => false
def aggOf (P : Program) (t : TypeId) : Option Nat := match P.underlying t with | some (.struct _) | some (.array _ _) => (P.info? t).map (·.size) | _ => none
theorem run_isAgg_scalar {t : TypeId} (h : isScalar P t = true) (w : World) : (isAgg t).run P w = .ok false w := by
  unfold isScalar at h
  cases hu : P.underlying t with
  | none => rw [hu] at h; simp at h
  | some d =>
    rw [hu] at h
    cases d <;> simp at h <;> simp [isAgg, run_underlying hu]
theorem run_isAgg_agg {t : TypeId} {k : Nat} (h : aggOf P t = some k) (w : World) : (isAgg t).run P w = .ok true w ∧ (sizeOf t).run P w = .ok k w := by
  unfold aggOf at h
  cases hu : P.underlying t with
  | none => rw [hu] at h; simp at h
  | some d =>
    rw [hu] at h
    cases d <;> simp at h <;> (obtain ⟨i, hi, rfl⟩ := h; exact ⟨by simp [isAgg, run_underlying hu], by simp [sizeOf, typeInfo, hi]⟩)
theorem run_load_scalar {t : TypeId} {p : Addr} {v : Value} {w : World} (h : isScalar P t = true) (hc : w.cell? p = some v) : (loadVar t p).run P w = .ok v w := by
  simp [loadVar, run_isAgg_scalar h, hc]
theorem run_load_agg {t : TypeId} {p : Addr} {vs : List Value} {w : World} (h : aggOf P t = some vs.length) (hc : ∀ j u, vs[j]? = some u → w.cell? (p.add j) = some u) : (loadVar t p).run P w = .ok (.agg vs.toArray) w := by
  obtain ⟨h1, h2⟩ := run_isAgg_agg h w
  simp [loadVar, h1, h2, run_loadCells_list (P := P) w p vs hc]
/-- the cells from p on are vs, in every world at hand -/
def Reads (w0 : World) (S : List Nat) (H : List Item) (p : Addr) (vs : List Value) : Prop := ∀ w, HS w0 S H w → ∀ j u, vs[j]? = some u → w.cell? (p.add j) = some u
theorem reads_blk {i b off : Nat} {cs vs : List Value} {t : TypeId} (hi : H[i]? = some (blk b cs t)) (hv : (cs.drop off).take vs.length = vs) : Reads w0 S H ⟨b, off, none⟩ vs := by
  intro w s j u hu
  have hh : w.heap[b]? = some (.cells cs.toArray t (0, 0)) := s.mem hi
  have hadd : (⟨b, off, none⟩ : Addr).add j = ⟨b, off + j, none⟩ := by unfold Addr.add; split <;> simp_all
  rw [hadd, cell_of_row w b (off + j) cs.toArray t (0, 0) hh]
  rw [← hv, List.getElem?_take] at hu
  split at hu
  · rw [List.getElem?_drop] at hu; simpa using hu
  · cases hu
theorem reads_old {p : Addr} {vs : List Value} (h : ∀ j u, vs[j]? = some u → w0.cell? (p.add j) = some u) (hS : p.block ∉ S) : Reads w0 S H p vs := by
  intro w s j u hu
  have hc := h j u hu
  have hb : (p.add j).block = p.block := by unfold Addr.add; split <;> rfl
  have hlt := World.block_lt_of_cell? w0 (p.add j) hc
  rw [← hc]
  exact World.cell?_of_block (s.fr.block _ hlt (by rw [hb]; exact hS))
theorem qt_load1 {x : Operand} {t : TypeId} {p : Addr} {v : Value} (ho : o.op = .load t x) (hx : ev env x = some (.pointer (some p))) (ht : isScalar P t = true) (hr : Reads w0 S H p [v]) : Qt P n env w0 S H o v :=
  qt_same fun a w r s => by
    have hc : w.cell? p = some v := by have := hr w s 0 v rfl; simpa [Addr.add] using this
    simp [execOp, ho, Instr.loadAt, r.ev hx, Instr.sureAddr, run_load_scalar ht hc]
theorem qt_loadN {x : Operand} {t : TypeId} {p : Addr} {vs : List Value} (ho : o.op = .load t x) (hx : ev env x = some (.pointer (some p))) (ht : aggOf P t = some vs.length) (hr : Reads w0 S H p vs) : Qt P n env w0 S H o (.agg vs.toArray) :=
  qt_same fun a w r s => by
    simp [execOp, ho, Instr.loadAt, r.ev hx, Instr.sureAddr, run_load_agg ht (hr w s)]

/-! addresses, division, bits -/
theorem add_lit' (b o k : Nat) : (⟨b, o, none⟩ : Addr).add k = ⟨b, o + k, none⟩ := by unfold Addr.add; split <;> simp_all
theorem qt_indexAddr {x y : Operand} {t el : TypeId} {b off len cap sz : Nat} {k : IntKind} {e : Int} (ho : o.op = .indexAddr t x y) (hx : ev env x = some (.slice (some ⟨b, off, none⟩) len cap)) (hy : ev env y = some (.int k e))
    (ht : P.underlying t = some (.slice el)) (hs : (P.info? el).map (·.size) = some sz) (hi : 0 ≤ e ∧ e < (len : Int)) : Qt P n env w0 S H o (.pointer (some ⟨b, off + e.toNat * sz, none⟩)) :=
  qt_same fun a w r _ => by
    simp only [Option.map_eq_some_iff] at hs
    obtain ⟨i, hinf, rfl⟩ := hs
    simp [execOp, ho, r.ev hx, r.ev hy, Instr.indexAt, asIntOf, run_underlying ht, sizeOf, typeInfo, hinf, hi, add_lit']
theorem qt_rem {x y : Operand} {t ty : TypeId} {k : IntKind} {e f : Int} (ho : o.op = .binOp .rem t x y ty) (hx : ev env x = some (.int k e)) (hy : ev env y = some (.int k f)) (hz : f ≠ 0) : Qt P n env w0 S H o (.int k (e.tmod f)) :=
  qt_same fun a w r _ => by simp [execOp, ho, r.ev hx, r.ev hy, eqGuard, binOp, Op.intDiv, hz]
theorem qt_quo {x y : Operand} {t ty : TypeId} {k : IntKind} {e f : Int} (ho : o.op = .binOp .quo t x y ty) (hx : ev env x = some (.int k e)) (hy : ev env y = some (.int k f)) (hz : f ≠ 0) : Qt P n env w0 S H o (.int k (k.wrap (e.tdiv f))) :=
  qt_same fun a w r _ => by simp [execOp, ho, r.ev hx, r.ev hy, eqGuard, binOp, Op.intDiv, hz]

def bitsV (op : BinOp) (k : IntKind) (x y : Int) : Int :=
  match op with
  | .and => k.wrap (BitVec.ofInt k.bits x &&& BitVec.ofInt k.bits y).toNat
  | .or => k.wrap (BitVec.ofInt k.bits x ||| BitVec.ofInt k.bits y).toNat
  | .xor => k.wrap (BitVec.ofInt k.bits x ^^^ BitVec.ofInt k.bits y).toNat
  | .andNot => k.wrap (BitVec.ofInt k.bits x &&& ~~~ (BitVec.ofInt k.bits y)).toNat
  | _ => 0
theorem wrap_i64 {e : Int} (h : -9223372036854775808 ≤ e ∧ e < 9223372036854775808) : IntKind.i64.wrap e = e := by
  simp [IntKind.wrap, IntKind.bits, IntKind.signed]; split <;> omega
theorem wrap_u64 {e : Int} (h : 0 ≤ e ∧ e < 18446744073709551616) : IntKind.u64.wrap e = e := by
  simp [IntKind.wrap, IntKind.bits, IntKind.signed]; omega
theorem wrap_u16 {e : Int} (h : 0 ≤ e ∧ e < 65536) : IntKind.u16.wrap e = e := by
  simp [IntKind.wrap, IntKind.bits, IntKind.signed]; omega
theorem wrap_u8 {e : Int} (h : 0 ≤ e ∧ e < 256) : IntKind.u8.wrap e = e := by
  simp [IntKind.wrap, IntKind.bits, IntKind.signed]; omega
theorem wrap_u32 {e : Int} (h : 0 ≤ e ∧ e < 4294967296) : IntKind.u32.wrap e = e := by
  simp [IntKind.wrap, IntKind.bits, IntKind.signed]; omega
theorem wrap_i32 {e : Int} (h : -2147483648 ≤ e ∧ e < 2147483648) : IntKind.i32.wrap e = e := by
  simp [IntKind.wrap, IntKind.bits, IntKind.signed]; split <;> omega

/-! new blocks -/
theorem A.box (d : Nat) {t : TypeId} {x : Operand} {u : Value} (cs : List Value) (hok : headOk ops n env o (some d) = true) (ho : o.op = .box t x) (hx : ev env x = some u) (hu : u.cells = cs.toArray)
    (H' : Nat → List Item) (hH : ∀ b, H ++ [blk b cs t] = H' b) (h : ∀ b, A n ((d, .pointer (some ⟨b, 0, none⟩)) :: env) w0 S (H' b) K) : A n env w0 S H (Step P ops o K) := by
  intro a w r s
  obtain ⟨h1, h2, h3, h4⟩ := headOk_spec hok
  unfold Step
  rw [if_pos (wanted_of r h1)]
  have hrun : (execOp a.eval o).run P w = .ok (.value (.pointer (some ⟨w.heap.size, 0, none⟩))) (w.alloc (.cells cs.toArray t)) := by
    simp [execOp, ho, r.ev hx, Instr.box, newVar, newRow, newObj, Sem.run, hu, World.alloc_eq]
  unfold Oper.wp
  rw [hrun]
  simp only [Oper.upon, h2]
  refine h w.heap.size _ _ (r.put (h3 d rfl)) ?_
  rw [← hH]
  exact (s.add (Fr.alloc _ _ _) (heap_alloc_new w _) (by simp [blk]) (by simp [blk]))
theorem A.alloc (d : Nat) {t : TypeId} (cs : List Value) (hok : headOk ops n env o (some d) = true) (ho : o.op = .alloc t) (hz : ((P.info? t).bind (·.zero)).map (·.cells) = some cs.toArray)
    (H' : Nat → List Item) (hH : ∀ b, H ++ [blk b cs t] = H' b) (h : ∀ b, A n ((d, .pointer (some ⟨b, 0, none⟩)) :: env) w0 S (H' b) K) : A n env w0 S H (Step P ops o K) := by
  intro a w r s
  obtain ⟨h1, h2, h3, h4⟩ := headOk_spec hok
  unfold Step
  rw [if_pos (wanted_of r h1)]
  have hrun : (execOp a.eval o).run P w = .ok (.value (.pointer (some ⟨w.heap.size, 0, none⟩))) (w.alloc (.cells cs.toArray t)) := by
    simp only [Option.map_eq_some_iff, Option.bind_eq_some_iff] at hz
    obtain ⟨z, ⟨i, hi, hz⟩, hc⟩ := hz
    simp [execOp, ho, Instr.alloc, zeroValue, typeInfo, hi, hz, newVar, newRow, newObj, Sem.run, hc, World.alloc_eq]
  unfold Oper.wp
  rw [hrun]
  simp only [Oper.upon, h2]
  refine h w.heap.size _ _ (r.put (h3 d rfl)) ?_
  rw [← hH]
  exact (s.add (Fr.alloc _ _ _) (heap_alloc_new w _) (by simp [blk]) (by simp [blk]))

/-! stores -/
theorem fr_setRow (w : World) (g : Nat) (cs : Array Value) : Fr [g] w (w.setRow g cs) := by
  refine ⟨rfl, rfl, rfl, by simp [World.setRow], fun k _ hk => ?_⟩
  simp only [List.mem_singleton] at hk
  simp only [World.setRow, Array.getElem?_modify]
  rw [if_neg (fun e => hk e.symm)]
theorem setRow_at (w : World) (g : Nat) (cs cur : Array Value) (t : TypeId) (hg : w.heap[g]? = some (.cells cur t (0, 0))) : (w.setRow g cs).heap[g]? = some (.cells cs t (0, 0)) := by
  simp [World.setRow, Array.getElem?_modify, hg]
theorem A.store (i : Nat) {t ty : TypeId} {x y : Operand} {b off : Nat} {u : Value} {cs vs : List Value} (H' : List Item) (hok : headOk ops n env o none = true) (ho : o.op = .store t x y) (hx : ev env x = some (.pointer (some ⟨b, off, none⟩)))
    (hy : ev env y = some u) (hu : u.cells = vs.toArray) (hsz : (P.info? t).map (·.size) = some vs.length) (h1 : vs.all Value.oneCell' = true) (hi : H[i]? = some (blk b cs ty)) (hin : Nat.ble (off + vs.length) cs.length = true)
    (hH : H.set i (blk b (cs.take off ++ vs ++ cs.drop (off + vs.length)) ty) = H')
    (h : A n env w0 S H' K) : A n env w0 S H (Step P ops o K) := by
  intro a w r s
  obtain ⟨h1', h2, h3, h4⟩ := headOk_spec hok
  unfold Step
  rw [if_pos (wanted_of r h1')]
  have hh : w.heap[b]? = some (.cells cs.toArray ty (0, 0)) := s.mem hi
  have hst := run_storeCells_at P b off ty vs 0 cs.toArray w hh (by simpa using Nat.le_of_ble_eq_true hin) (fun v hv => List.all_eq_true.1 h1 v hv)
  simp only [Nat.add_zero] at hst
  have hlen : u.cells.size = vs.length := by rw [hu]; simp
  simp only [Option.map_eq_some_iff] at hsz
  obtain ⟨inf, hinf, hsz⟩ := hsz
  have hrun : (execOp a.eval o).run P w = .ok .skip (w.setRow b (cs.take off ++ vs ++ cs.drop (off + vs.length)).toArray) := by
    simp only [execOp, ho, Instr.storeAt, r.ev hx, r.ev hy, Instr.sureAddr, storeVar, sizeOf, typeInfo, Sem.run_bind, run_program, Sem.run_pure, Result.andThen_ok, hinf, hsz, hlen]
    simp [hu, hst]
  unfold Oper.wp
  rw [hrun]
  simp only [Oper.upon, h2]
  refine h _ _ r ?_
  rw [← hH]
  exact s.turn hi (fr_setRow _ _ _) (setRow_at w b _ _ ty hh) (by simp [blk]) (by simp [blk])
end single

/-! ### calls -/
def callOk (P : Program) (f : FuncId) : Bool := match P.funcs[f]? with | some fn => fn.name != "runtime.NumGoroutine" && fn.body.isSome | none => false
section calls
variable {P : Program} {Q : Exit → Act → World → Prop} {n : Nat} {env : Env} {w0 : World} {S : List Nat} {H : List Item} {ops : Array Oper} {rest : List Oper} {o : Oper} {K : Act → World → Prop}
theorem run_call {f : FuncId} {xs : Array Operand} {ats : Array TypeId} {ρ : Operand → Value} {w : World} (hf : callOk P f = true) (ho : o.op = .call { callee := .value (.func f), args := xs, argTypes := ats }) (hfn : ρ (.func f) = .func (.func f) #[] #[]) :
    (execOp ρ o).run P w = .ok (.enter f (xs.map ρ)) w := by
  unfold callOk at hf
  cases hp : P.funcs[f]? with
  | none => rw [hp] at hf; simp at hf
  | some fn =>
    rw [hp] at hf
    simp only [Bool.and_eq_true, bne_iff_ne, ne_eq] at hf
    have hn : ¬ fn.body = none := by cases hb : fn.body <;> simp_all
    simp [execOp, ho, resolve, hfn, Deferred.ofValue, invoke, callFunc, hp, hf.1, hn]
theorem args_env {a : Act} (r : Rep n env a) {xs : Array Operand} {args : List Value} (h : xs.toList.map (ev env) = args.map some) : xs.map a.eval = args.toArray := by
  apply Array.ext'
  simp only [Array.toList_map]
  obtain ⟨l⟩ := xs
  simp only at h ⊢
  induction l generalizing args with
  | nil => cases args <;> simp_all
  | cons y l ih =>
    cases args with
    | nil => simp at h
    | cons v args =>
      simp only [List.map_cons, List.cons.injEq] at h
      simp [r.ev h.1, ih h.2]
/-- a call by its contract, in full -/
theorem A.call {σ : Type} (d : Option Nat) {f : FuncId} {xs : Array Operand} {ats : Array TypeId} (args : List Value) (rv : σ → Value) (φ : σ → Prop) (Hf : σ → List Item)
    (hok : headOk ops n env o d = true) (ho : o.op = .call { callee := .value (.func f), args := xs, argTypes := ats }) (hf : callOk P f = true) (hx : xs.toList.map (ev env) = args.map some)
    (hc : ∀ w, HS w0 S H w → Calls P f args.toArray w fun e w' => ∃ x, e = .returned (rv x) ∧ φ x ∧ HS w0 S (Hf x) w')
    (h : ∀ x, φ x → A n (putE env d (rv x)) w0 S (Hf x) K) : A n env w0 S H (Step P ops o K) := by
  intro a w r s
  obtain ⟨h1', h2, h3, h4⟩ := headOk_spec hok
  unfold Step
  rw [if_pos (wanted_of r h1')]
  unfold Oper.wp
  rw [run_call hf ho (by rfl), args_env r hx]
  simp only [Oper.upon, h2]
  refine (hc w s).mono fun e w' he => ?_
  obtain ⟨x, rfl, hφ, hs⟩ := he
  exact h x hφ _ _ (r.putE h3) hs
/-- a call that yields v and turns no old block -/
theorem qt_call {f : FuncId} {xs : Array Operand} {ats : Array TypeId} {v : Value} (args : List Value) (ho : o.op = .call { callee := .value (.func f), args := xs, argTypes := ats }) (hf : callOk P f = true)
    (hx : xs.toList.map (ev env) = args.map some) (hc : ∀ w, HS w0 S H w → Calls P f args.toArray w fun e w' => e = .returned v ∧ Fr [] w w') : Qt P n env w0 S H o v := by
  intro a w r s
  rw [run_call hf ho (by rfl), args_env r hx]
  exact hc w s

/-! ### a function's contract from its body -/
theorem calls_of {f : FuncId} {fn : Func} {c : Code} {args : List Value} {w : World} {R : Ending → World → Prop} (env : Env) (S : List Nat) (H : List Item)
    (hf : P.funcs[f]? = some fn) (hb : fn.body = some c) (hn : (Nat.ble args.length fn.ntmps) = true) (he : ∀ i v, look env i = some v → args[i]? = some v) (hs : HS w S H w)
    (h : A fn.ntmps env w S H (c.wp P (bodyPost P fn R))) : Calls P f args.toArray w R := by
  refine calls_of_wp hf hb (h _ _ ⟨?_, rfl, fun i v hv => ?_⟩ hs)
  · have := Nat.le_of_ble_eq_true hn
    simp; omega
  · have hi := he i v hv
    have hlt : i < args.length := (List.getElem?_eq_some_iff.1 hi).1
    simp only [Array.getD_eq_getD_getElem?]
    rw [Array.getElem?_append_left (by simpa using hlt)]
    simp [hi]
/-- the parameters' slots -/
def penv (args : List Value) : Env := (List.range args.length).zip args
theorem look_zip : ∀ (args : List Value) (k i : Nat) (v : Value), look ((List.range' k args.length).zip args) i = some v → k ≤ i ∧ args[i - k]? = some v
  | [], _, _, _, h => by simp [look] at h
  | a :: args, k, i, v, h => by
    simp only [List.length_cons, List.range'_succ, List.zip_cons_cons] at h
    rcases look_put h with ⟨rfl, rfl⟩ | ⟨hne, hl⟩
    · simp
    · have ⟨h1, h2⟩ := look_zip args (k + 1) i v hl
      refine ⟨by omega, ?_⟩
      rw [show i - k = (i - (k + 1)) + 1 from by omega]; simpa using h2
theorem look_penv (args : List Value) (i : Nat) (v : Value) (h : look (penv args) i = some v) : args[i]? = some v := by
  unfold penv at h
  rw [List.range_eq_range'] at h
  simpa using (look_zip args 0 i v h).2

/-! ### returns -/
def RV (P : Program) (w : World) (a : Act) : ResultVar → Value → Prop
  | .tmp t, v => a.tmps.getD t undef = v
  | .cell x t, v => ∃ p, a.tmps.getD x undef = .pointer (some p) ∧ (loadVar t p).run P w = .ok v w
def RVs (P : Program) (w : World) (a : Act) : List ResultVar → List Value → Prop
  | [], [] => True
  | r :: l, v :: vs => RV P w a r v ∧ RVs P w a l vs
  | _, _ => False
def resF (a : Act) : ResultVar → Sem Value
  | .tmp t => Pure.pure (a.tmps.getD t undef)
  | .cell x t => do loadVar t (← asAddr (a.tmps.getD x undef))
theorem run_resultsL {w : World} {a : Act} : ∀ (l : List ResultVar) (vs : List Value), RVs P w a l vs → (l.mapM (resF a)).run P w = .ok vs w
  | [], [], _ => rfl
  | [], _ :: _, h => h.elim
  | _ :: _, [], h => h.elim
  | r :: l, v :: vs, ⟨hr, hl⟩ => by
    have ih := run_resultsL l vs hl
    simp only [List.mapM_cons, Sem.run_bind]
    cases r with
    | tmp t => simp only [RV] at hr; simp [resF, hr, ih]
    | cell x t =>
      obtain ⟨p, hp, hld⟩ := hr
      simp [resF, hp, asAddr, hld, ih]
def outOf : List Value → Value
  | [v] => v
  | vs => .tuple vs.toArray
theorem run_results {fn : Func} {w : World} {a : Act} {vs : List Value} (h : RVs P w a fn.results.toList vs) :
    (results fn a.tmps).run P w = .ok (outOf vs) w := by
  have h1 := run_resultsL _ _ h
  have h2 : (fn.results.mapM (resF a)).run P w = .ok vs.toArray w := by
    rw [Array.mapM_eq_mapM_toList]
    simp [h1]
  unfold results
  rw [Sem.run_bind]
  refine Eq.trans (congrArg (fun x => Result.andThen x _) h2) ?_
  match vs with
  | [] => simp [outOf]
  | [v] => simp [outOf]
  | _ :: _ :: _ => simp [outOf]
theorem rv_tmp {w : World} {a : Act} {t : Tmp} {v : Value} (r : Rep n env a) (h : look env t = some v) : RV P w a (.tmp t) v := r.get t v h
theorem rv_cell1 {w : World} {a : Act} {x : Tmp} {t : TypeId} {p : Addr} {v : Value} (r : Rep n env a) (s : HS w0 S H w) (h : look env x = some (.pointer (some p))) (ht : isScalar P t = true) (hr : Reads w0 S H p [v]) : RV P w a (.cell x t) v :=
  ⟨p, r.get x _ h, run_load_scalar ht (by have := hr w s 0 v rfl; simpa [Addr.add] using this)⟩
theorem rv_cellN {w : World} {a : Act} {x : Tmp} {t : TypeId} {p : Addr} {vs : List Value} (r : Rep n env a) (s : HS w0 S H w) (h : look env x = some (.pointer (some p))) (ht : aggOf P t = some vs.length) (hr : Reads w0 S H p vs) : RV P w a (.cell x t) (.agg vs.toArray) :=
  ⟨p, r.get x _ h, run_load_agg ht (hr w s)⟩
theorem A.post {fn : Func} {R : Ending → World → Prop} (vs : List Value) (hv : ∀ a w, Rep n env a → HS w0 S H w → RVs P w a fn.results.toList vs)
    (h : ∀ w, HS w0 S H w → R (.returned (outOf vs)) w) : A n env w0 S H (bodyPost P fn R .ret) :=
  fun a w r s => ⟨r.nod, _, run_results (hv a w r s), h w s⟩
theorem A.postn {fn : Func} {R : Ending → World → Prop} (vs : List Value) (hv : ∀ a w, Rep n env a → HS w0 S H w → RVs P w a fn.results.toList vs)
    (h : ∀ w, HS w0 S H w → R (.returned (outOf vs)) w) : A n env w0 S H (bodyPost P fn R .normal) :=
  fun a w r s => ⟨r.nod, _, run_results (hv a w r s), h w s⟩
end calls
end Go.Proofs.YtaacfehlcdkdhaaGreatDoor.V
