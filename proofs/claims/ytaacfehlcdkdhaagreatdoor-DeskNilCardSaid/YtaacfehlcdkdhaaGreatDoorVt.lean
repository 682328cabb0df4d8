/- My own verifier: contracts of functions that write: which things of memory become which; things opened and shut. Generic: nothing of the dump. -/
import Derived.Test.YtaacfehlcdkdhaaGreatDoorVw
import Derived.Test.YtaacfehlcdkdhaaGreatDoorVh
namespace Go.Proofs.YtaacfehlcdkdhaaGreatDoor.V
open Go

abbrev i_ (e : Int) : Value := .int .i64 e
abbrev u_ (e : Int) : Value := .int .u64 e
abbrev w_ (e : Int) : Value := .int .u16 e
abbrev y_ (e : Int) : Value := .int .u8 e
abbrev b_ (e : Bool) : Value := .bool e
abbrev s_ (e : ByteArray) : Value := .string e
abbrev p_ (b : Nat) : Value := .pointer (some ⟨b, 0, none⟩)
abbrev q_ (b o : Nat) : Value := .pointer (some ⟨b, o, none⟩)
abbrev n_ : Value := .pointer none
abbrev e_ : Value := .slice none 0 0
/-- a number of the program that is a natural one -/
abbrev c_ (n : Nat) : Value := .int .i64 (n : Int)
theorem nrm : (∀ (p : Prop) [Decidable p], (decide p = true) ↔ p) ∧ (∀ (p : Prop) [Decidable p], (decide p = false) ↔ ¬p) ∧ (∀ (α : Type) [BEq α] [LawfulBEq α] (a b : α), ((a == b) = true) ↔ a = b) ∧ (∀ (α : Type) [BEq α] [LawfulBEq α] (a b : α), ((a == b) = false) ↔ ¬ a = b)
    ∧ (∀ (α : Type) [BEq α] [LawfulBEq α] (a b : α), ((a != b) = true) ↔ ¬ a = b) ∧ (∀ (α : Type) [BEq α] [LawfulBEq α] (a b : α), ((a != b) = false) ↔ a = b) ∧ (∀ (α : Type) (a b : α), (a ≠ b) ↔ ¬ a = b)
    ∧ (∀ a b : Bool, ((a && b) = true) ↔ (a = true ∧ b = true)) ∧ (∀ a b : Bool, ((a || b) = true) ↔ (a = true ∨ b = true)) ∧ (∀ a b : Bool, ((a || b) = false) ↔ (a = false ∧ b = false)) ∧ (∀ a : Bool, ((!a) = true) ↔ a = false) ∧ (∀ a : Bool, ((!a) = false) ↔ a = true)
    ∧ (∀ a b : Int, (¬ a < b) ↔ b ≤ a) ∧ (∀ a b : Int, (¬ a ≤ b) ↔ b < a) ∧ (∀ a b : Int, (a > b) ↔ b < a) ∧ (∀ a b : Int, (a ≥ b) ↔ b ≤ a) ∧ (∀ p : Prop, (¬¬p) ↔ p) :=
  ⟨fun _ _ => decide_eq_true_iff, fun _ _ => decide_eq_false_iff_not, fun _ _ _ _ _ => beq_iff_eq, fun _ _ _ _ _ => beq_eq_false_iff_ne, fun _ _ _ _ _ => bne_iff_ne, fun _ _ _ _ _ => bne_eq_false_iff_eq, fun _ _ _ => Iff.rfl, fun _ _ => by simp, fun _ _ => by simp, fun _ _ => by simp, fun _ => by simp, fun _ => by simp, fun _ _ => Int.not_lt, fun _ _ => Int.not_le, fun _ _ => Iff.rfl, fun _ _ => Iff.rfl, fun _ => Classical.not_not⟩
abbrev vS {α : Type} (A : Option Addr) (xs : List α) (c : Nat) : Value := .slice A xs.length c

theorem cc {α : Type} {a b : α} {l m : List α} (h : a = b) (k : l = m) : a :: l = b :: m := by subst h; subst k; rfl
theorem blkC {b : Nat} {l m : List Value} {t : TypeId} (h : l = m) : blk b l t = blk b m t := by subst h; rfl
theorem slC {α : Type} {enc : α → List Value} {xs ys : List α} {A : Option Addr} {c : Nat} {t : TypeId} {sz : Nat} (h : xs = ys) : sl A xs.length c t sz (flat enc xs) = sl A ys.length c t sz (flat enc ys) := by subst h; rfl
def imax (x y : Int) : Int := if y > x then y else x
def imin (x y : Int) : Int := if y < x then y else x
theorem imax_eq (x y : Int) : imax x y = max x y := by unfold imax; omega
theorem imin_eq (x y : Int) : imin x y = min x y := by unfold imin; omega
/-- things Is have become things Os; nothing else has turned -/
structure Turn (Is Os : List Item) (w w' : World) : Prop where
  fr : Fr (feet Is) w w'
  all : ∀ it ∈ Os, it.holds w'
  nodup : (feet Os).Nodup
  own : ∀ b ∈ feet Os, b ∈ feet Is ∨ w.heap.size ≤ b
theorem Turn.of {Is Os K : List Item} {w w' : World} (h : HS w (feet Is) K w') (hs : List.Sublist Os K) : Turn Is Os w w' :=
  have h' := h.sub hs
  ⟨h'.fr, h'.all, h'.nodup, h'.own⟩
theorem Turn.ofP {Is Os K M : List Item} {w w' : World} (h : HS w (feet Is) K w') (hs : List.Sublist M K) (hp : List.Perm M Os) : Turn Is Os w w' :=
  have h' := (h.sub hs).perm hp
  ⟨h'.fr, h'.all, h'.nodup, h'.own⟩
def pull : List Nat → List Item → Option (List Item × List Item)
  | [], H => some ([], H)
  | i :: is, H => match H[i]? with
    | some it => (match pull is (H.eraseIdx i) with | some (a, r) => some (it :: a, r) | none => none)
    | none => none
theorem perm_erase {α : Type} : ∀ {H : List α} {i : Nat} {it : α}, H[i]? = some it → List.Perm H (it :: H.eraseIdx i)
  | [], i, it, h => by simp at h
  | x :: H, 0, it, h => by simp at h; subst h; exact List.Perm.refl _
  | x :: H, i + 1, it, h => by
    simp at h
    have := perm_erase h
    exact (List.Perm.cons x this).trans (List.Perm.swap it x _)
theorem pull_perm : ∀ {is : List Nat} {H Is R : List Item}, pull is H = some (Is, R) → List.Perm H (Is ++ R)
  | [], H, Is, R, h => by simp [pull] at h; obtain ⟨rfl, rfl⟩ := h; exact List.Perm.refl _
  | i :: is, H, Is, R, h => by
    simp only [pull] at h
    cases hi : H[i]? with
    | none => rw [hi] at h; simp at h
    | some it =>
      rw [hi] at h
      simp only at h
      cases hp : pull is (H.eraseIdx i) with
      | none => rw [hp] at h; simp at h
      | some ar =>
        obtain ⟨a, r⟩ := ar
        rw [hp] at h
        simp at h; obtain ⟨rfl, rfl⟩ := h
        exact (perm_erase hi).trans (List.Perm.cons it (pull_perm hp))
theorem HS.focus {w0 : World} {S : List Nat} {H Is R : List Item} {w : World} (h : HS w0 S H w) (hp : List.Perm H (Is ++ R)) : HS w (feet Is) Is w := by
  have h' := h.perm hp
  refine HS.start w Is (fun it hi => h'.all it (List.mem_append.2 (.inl hi))) ?_
  have := h'.nodup
  rw [feet_append] at this
  exact (List.nodup_append.1 this).1
/-- the frame: what is not named stays -/
theorem HS.turned {w0 : World} {S : List Nat} {H Is Os R : List Item} {w w' : World} (h : HS w0 S H w) (hp : List.Perm H (Is ++ R)) (ht : Turn Is Os w w') : HS w0 S (Os ++ R) w' := by
  have h' := h.perm hp
  have hnd := h'.nodup
  rw [feet_append] at hnd
  obtain ⟨n1, n2, n3⟩ := List.nodup_append.1 hnd
  have hlt : ∀ b ∈ feet (Is ++ R), b < w.heap.size := fun b hb => by
    obtain ⟨it, hi, hb'⟩ := List.mem_flatMap.1 hb
    exact it.here w (h'.all it hi) b hb'
  have hIs : ∀ x ∈ feet Is, x ∈ S ∨ w0.heap.size ≤ x := fun x hx => h'.own x (by rw [feet_append]; simp [hx])
  refine ⟨h'.fr.trans' ht.fr hIs, fun it hi => ?_, ?_, fun b hb => ?_⟩
  · rcases List.mem_append.1 hi with hi | hi
    · exact ht.all it hi
    · refine it.loc w w' (fun b hb => ht.fr.block b (it.here w (h'.all it (by simp [hi])) b hb) fun hm => ?_) (h'.all it (by simp [hi]))
      exact n3 b hm b (List.mem_flatMap.2 ⟨it, hi, hb⟩) rfl
  · rw [feet_append]
    refine List.nodup_append.2 ⟨ht.nodup, n2, fun x hx y hy => ?_⟩
    rcases ht.own x hx with h1 | h1
    · exact n3 x h1 y hy
    · have := hlt y (by rw [feet_append]; simp [hy]); omega
  · rw [feet_append] at hb
    rcases List.mem_append.1 hb with hb | hb
    · rcases ht.own b hb with h1 | h1
      · exact hIs b h1
      · right; have := h'.fr.size; omega
    · exact h'.own b (by rw [feet_append]; simp [hb])
section
variable {P : Program} {Q : Exit → Act → World → Prop} {n : Nat} {env : Env} {w0 : World} {S : List Nat} {H : List Item} {ops : Array Oper} {o : Oper} {K : Act → World → Prop}
/-- a call by its contract: the things at places is are handed in -/
theorem A.callT {σ : Type} (d : Option Nat) {f : FuncId} (args : List Value) (is : List Nat) {Is R : List Item} (rv : σ → Value) (φ : σ → Prop) (Os : σ → List Item) (H' : σ → List Item)
    (hok : (headOk ops n env o d && callOk P f) = true) (hx : callArgs env o = some (f, args)) (hp : pull is H = some (Is, R))
    (hc : ∀ w, HS w0 S H w → HS w (feet Is) Is w → Calls P f args.toArray w fun e w' => ∃ x, e = .returned (rv x) ∧ φ x ∧ Turn Is (Os x) w w') (hH : ∀ x, Os x ++ R = H' x)
    (h : ∀ x, φ x → A n (putE env d (rv x)) w0 S (H' x) K) : A n env w0 S H (Step P ops o K) := by
  intro a w r s
  obtain ⟨hok, hf⟩ := Bool.and_eq_true_iff.1 hok
  obtain ⟨h1', h2, h3, h4⟩ := headOk_spec hok
  unfold Step
  rw [if_pos (wanted_of r h1')]
  unfold Oper.wp
  rw [run_callX r hx hf]
  simp only [Oper.upon, h2]
  have hpm := pull_perm hp
  refine (hc w s (s.focus hpm)).mono fun e w' he => ?_
  obtain ⟨x, rfl, hφ, ht⟩ := he
  refine h x hφ _ _ (r.putE h3) ?_
  rw [← hH]
  exact s.turned hpm ht
/-- a call, walked in its caller's place -/
theorem A.inlX (d : Option Nat) {f : FuncId} {fn : Func} {c : Code} (args : List Value) (env' : Env)
    (hok : (headOk ops n env o d && callOk P f && Nat.ble args.length fn.ntmps) = true) (hx : callArgs env o = some (f, args))
    (hfn : P.funcs[f]? = some fn) (hb : fn.body = some c) (he : penv args = env')
    (h : V.A fn.ntmps env' w0 S H (c.wp P (bodyPost P fn (Back n env d K)))) : V.A n env w0 S H (Step P ops o K) := by
  intro a w r s
  obtain ⟨hok, hn⟩ := Bool.and_eq_true_iff.1 hok
  obtain ⟨hok, hf⟩ := Bool.and_eq_true_iff.1 hok
  obtain ⟨h1', h2, h3, h4⟩ := headOk_spec hok
  unfold Step
  rw [if_pos (wanted_of r h1')]
  unfold Oper.wp
  rw [run_callX r hx hf]
  simp only [Oper.upon, h2]
  subst he
  have hc : Calls P f args.toArray w (Back n env d K) := by
    refine calls_of_wp hfn hb (h _ _ ⟨?_, rfl, fun i v hv => ?_⟩ s)
    · have := Nat.le_of_ble_eq_true hn
      simp; omega
    · have hi := look_penv args i v hv
      have hlt : i < args.length := (List.getElem?_eq_some_iff.1 hi).1
      simp only [Array.getD_eq_getD_getElem?]
      rw [Array.getElem?_append_left (by simpa using hlt)]
      simp [hi]
  refine hc.mono fun e w' ⟨v, hv, hk⟩ => ?_
  subst hv
  exact hk a r
/-- a thing told by other things -/
theorem A.reshape {G : Act → World → Prop} {σ : Type} (is : List Nat) {Is R : List Item} (φ : σ → Prop) (Os H' : σ → List Item) (hp : pull is H = some (Is, R))
    (hi : ∀ w, HS w (feet Is) Is w → ∃ x, φ x ∧ (∀ it ∈ Os x, it.holds w) ∧ (feet (Os x)).Nodup ∧ ∀ b ∈ feet (Os x), b ∈ feet Is) (hH : ∀ x, Os x ++ R = H' x) (h : ∀ x, φ x → V.A n env w0 S (H' x) G) : V.A n env w0 S H G := by
  intro a w r s
  have hpm := pull_perm hp
  obtain ⟨x, hφ, h1, h2, h3⟩ := hi w (s.focus hpm)
  have := s.turned hpm (Os := Os x) (w' := w) ⟨Fr.refl _ _, h1, h2, fun b hb => .inl (h3 b hb)⟩
  rw [hH] at this
  exact h x hφ a w r this
/-- the end of a function that writes -/
theorem A.postT {fn : Func} {Is : List Item} {σ : Type} {w : World} {rv : σ → Value} {φ : σ → Prop} {Os : σ → List Item} {H : List Item} (vs : List Value) (hv : ∀ a w1, Rep n env a → HS w (feet Is) H w1 → RVs P w1 a fn.results.toList vs)
    (x : σ) (hx : outOf vs = rv x) (hφ : φ x) (hs : List.Sublist (Os x) H) : V.A n env w (feet Is) H (bodyPost P fn (fun e w' => ∃ x, e = .returned (rv x) ∧ φ x ∧ Turn Is (Os x) w w') .ret) :=
  A.post vs hv fun _ s => ⟨x, by rw [hx], hφ, Turn.of s hs⟩
theorem A.postTn {fn : Func} {Is : List Item} {σ : Type} {w : World} {rv : σ → Value} {φ : σ → Prop} {Os : σ → List Item} {H : List Item} (vs : List Value) (hv : ∀ a w1, Rep n env a → HS w (feet Is) H w1 → RVs P w1 a fn.results.toList vs)
    (x : σ) (hx : outOf vs = rv x) (hφ : φ x) (hs : List.Sublist (Os x) H) : V.A n env w (feet Is) H (bodyPost P fn (fun e w' => ∃ x, e = .returned (rv x) ∧ φ x ∧ Turn Is (Os x) w w') .normal) :=
  A.postn vs hv fun _ s => ⟨x, by rw [hx], hφ, Turn.of s hs⟩
theorem A.postTp {fn : Func} {Is M : List Item} {σ : Type} {w : World} {rv : σ → Value} {φ : σ → Prop} {Os : σ → List Item} {H : List Item} (vs : List Value) (hv : ∀ a w1, Rep n env a → HS w (feet Is) H w1 → RVs P w1 a fn.results.toList vs)
    (x : σ) (hx : outOf vs = rv x) (hφ : φ x) (hs : List.Sublist M H) (hpm : List.Perm M (Os x)) : V.A n env w (feet Is) H (bodyPost P fn (fun e w' => ∃ x, e = .returned (rv x) ∧ φ x ∧ Turn Is (Os x) w w') .ret) :=
  A.post vs hv fun _ s => ⟨x, by rw [hx], hφ, Turn.ofP s hs hpm⟩
/-- .. that writes nothing -/
theorem A.postQ {fn : Func} {w : World} {v : Value} (vs : List Value) (hv : ∀ a w1, Rep n env a → HS w [] H w1 → RVs P w1 a fn.results.toList vs) (hx : outOf vs = v) :
    V.A n env w [] H (bodyPost P fn (fun e w' => e = .returned v ∧ Fr [] w w') .ret) := A.post vs hv fun _ s => ⟨by rw [hx], s.fr⟩
theorem A.postQn {fn : Func} {w : World} {v : Value} (vs : List Value) (hv : ∀ a w1, Rep n env a → HS w [] H w1 → RVs P w1 a fn.results.toList vs) (hx : outOf vs = v) :
    V.A n env w [] H (bodyPost P fn (fun e w' => e = .returned v ∧ Fr [] w w') .normal) := A.postn vs hv fun _ s => ⟨by rw [hx], s.fr⟩
theorem A.setH {G : Act → World → Prop} (H' : List Item) (hH : H = H') (h : V.A n env w0 S H' G) : V.A n env w0 S H G := hH ▸ h
/-- the things at these places, in this order; the others are let go -/
theorem A.pick {G : Act → World → Prop} (is : List Nat) (K : List Item) (hp : (match pull is H with | some x => some x.1 | none => none) = some K) (h : V.A n env w0 S K G) : V.A n env w0 S H G := by
  cases hq : pull is H with
  | none => rw [hq] at hp; cases hp
  | some x =>
    obtain ⟨a, r⟩ := x
    rw [hq] at hp; simp at hp; subst hp
    intro b w hr s
    exact h b w hr ((s.perm (pull_perm hq)).sub (List.sublist_append_left _ _))
theorem A.hereK (is : List Nat) {env' : Env} {K : List Item} (hs : V.sub env env') (hp : (match pull is H with | some x => some x.1 | none => none) = some K) : V.A n env w0 S H (fun a w => Rep n env' a ∧ HS w0 S K w) :=
  A.pick is K hp (A.here hs (List.Sublist.refl _))
theorem Turn.pick {Is Os K : List Item} {w w' : World} (is : List Nat) (h : HS w (feet Is) K w') (hp : (match pull is K with | some x => some x.1 | none => none) = some Os) : Turn Is Os w w' := by
  cases hq : pull is K with
  | none => rw [hq] at hp; cases hp
  | some x =>
    obtain ⟨a, r⟩ := x
    rw [hq] at hp; simp at hp; subst hp
    exact Turn.of (h.perm (pull_perm hq)) (List.sublist_append_left _ _)
theorem A.postK {fn : Func} {Is : List Item} {σ : Type} {w : World} {rv : σ → Value} {φ : σ → Prop} {Os : σ → List Item} {H : List Item} (is : List Nat) (vs : List Value) (hv : ∀ a w1, Rep n env a → HS w (feet Is) H w1 → RVs P w1 a fn.results.toList vs)
    (x : σ) (hx : outOf vs = rv x) (hφ : φ x) (hp : (match pull is H with | some x => some x.1 | none => none) = some (Os x)) : V.A n env w (feet Is) H (bodyPost P fn (fun e w' => ∃ x, e = .returned (rv x) ∧ φ x ∧ Turn Is (Os x) w w') .ret) :=
  A.post vs hv fun _ s => ⟨x, by rw [hx], hφ, Turn.pick is s hp⟩
theorem A.postKn {fn : Func} {Is : List Item} {σ : Type} {w : World} {rv : σ → Value} {φ : σ → Prop} {Os : σ → List Item} {H : List Item} (is : List Nat) (vs : List Value) (hv : ∀ a w1, Rep n env a → HS w (feet Is) H w1 → RVs P w1 a fn.results.toList vs)
    (x : σ) (hx : outOf vs = rv x) (hφ : φ x) (hp : (match pull is H with | some x => some x.1 | none => none) = some (Os x)) : V.A n env w (feet Is) H (bodyPost P fn (fun e w' => ∃ x, e = .returned (rv x) ∧ φ x ∧ Turn Is (Os x) w w') .normal) :=
  A.postn vs hv fun _ s => ⟨x, by rw [hx], hφ, Turn.pick is s hp⟩
theorem reads_view {b off : Nat} {cs vs : List Value} {t : TypeId} (h : ∀ w, HS w0 S H w → w.heap[b]? = some (.cells cs.toArray t (0, 0))) (hv : (cs.drop off).take vs.length = vs) : Reads w0 S H ⟨b, off, none⟩ vs := by
  intro w s j u hu
  rw [add_lit', cell_of_row w b (off + j) cs.toArray t (0, 0) (h w s)]
  rw [← hv, List.getElem?_take] at hu
  split at hu
  · rw [List.getElem?_drop] at hu; simpa using hu
  · cases hu
/-- reads of a thing of a list -/
theorem ixOf {α : Type} {enc : α → List Value} {xs : List α} {A : Option Addr} {m sz : Nat} (he : ∀ x, (enc x).length = sz) (hz : 0 < sz) (hr : Rd w0 S H A (flat enc xs)) (hi : m < xs.length) : Cx.ix ⟨P, w0, S, H⟩ A xs.length (m : Int) := by
  refine ⟨⟨by omega, by omega⟩, fun w s => ?_⟩
  have hlt : 0 < (flat enc xs).length := by rw [flat_len he]; exact Nat.mul_pos (by omega) hz
  exact (hr w s 0 _ (List.getElem?_eq_getElem hlt)).1
theorem reads_at2 {α : Type} {enc : α → List Value} {xs : List α} {A : Option Addr} {m sz f : Nat} {x : α} {vs : List Value} (he : ∀ x, (enc x).length = sz) (hr : Rd w0 S H A (flat enc xs)) (hx : xs[m]? = some x) (hf : f + vs.length ≤ sz) (hv : ((enc x).drop f).take vs.length = vs) :
    Reads w0 S H (((at0 A).add (m * sz)).add f) vs := by rw [add_add']; exact reads_at he hr hx hf hv
end
end Go.Proofs.YtaacfehlcdkdhaaGreatDoor.V
