/- My own verifier: contracts of functions that write: which things of memory become which; things opened and shut. Generic: nothing of the dump. My own verifier: batches in which what is quiet may be taken at any time: B holds in all of the region's worlds. Generic: nothing of the dump. My own verifier: maps, as lists of keys and values. Generic: nothing of the dump. My own verifier: 'delete(m, k)'. Generic: nothing of the dump. My own verifier: parts of slices, 'x[:m]' and 'x[m:]'. Generic: nothing of the dump. My own verifier: the sorted keys of a map of ints, from the shelf's contracts. Generic: nothing of the dump. My own verifier: a map from ints to slices of its own. Generic: nothing of the dump. My own verifier: 'for k, v := range m' over a map that nobody writes. Generic: nothing of the dump. My own verifier: a slice of ints of the call's own, sorted by the library. Generic: nothing of the dump. My own verifier: a drawn region in which the one that writes is named ahead of the quiet one. Generic: nothing of the dump. My own verifier: a store at an element of a slice of the call's own. Generic: nothing of the dump. My own verifier: a shift to the left by a number of bits that is not written out. Generic: nothing of the dump. My own verifier: slices of numbers of the call's own beside the kit's rows of numbers. Generic: nothing of the dump. My own verifier: the room of a slice that came in. Generic: nothing of the dump. My own verifier: a loop whose first round is walked apart. Generic: nothing of the dump. My own verifier: shorter forms of its rules; a state is told by what is new in it. Generic: nothing of the dump. My own verifier: a map from ints to maps of ints of its own. Generic: nothing of the dump. -/
import Derived.Test.YtinnnoimmioaiaaL1
import Derived.MapKept
import Derived.Shelf.SlIterI.Nil
import Derived.Maps.RangeRun
import Derived.Sort.OwnSortedInts
namespace Go.Proofs.Ytinnnoimmioaiaa.V
open Go

abbrev i_ (e : Int) : Value := .int .i64 e
abbrev u_ (e : Int) : Value := .int .u64 e
abbrev w_ (e : Int) : Value := .int .u16 e
abbrev y_ (e : Int) : Value := .int .u8 e
abbrev b_ (e : Bool) : Value := .bool e
abbrev s_ (e : ByteArray) : Value := .string e
abbrev p_ (b : Nat) : Value := .pointer (some ⟨b, 0, none⟩)
abbrev q_ (b o : Nat) : Value := .pointer (some ⟨b, o, none⟩)
abbrev n_ : Value := .pointer none
abbrev e_ : Value := .slice none 0 0
/-- a number of the program that is a natural one -/
abbrev c_ (n : Nat) : Value := .int .i64 (n : Int)
theorem nrm : (∀ (p : Prop) [Decidable p], (decide p = true) ↔ p) ∧ (∀ (p : Prop) [Decidable p], (decide p = false) ↔ ¬p) ∧ (∀ (α : Type) [BEq α] [LawfulBEq α] (a b : α), ((a == b) = true) ↔ a = b) ∧ (∀ (α : Type) [BEq α] [LawfulBEq α] (a b : α), ((a == b) = false) ↔ ¬ a = b)
    ∧ (∀ (α : Type) [BEq α] [LawfulBEq α] (a b : α), ((a != b) = true) ↔ ¬ a = b) ∧ (∀ (α : Type) [BEq α] [LawfulBEq α] (a b : α), ((a != b) = false) ↔ a = b) ∧ (∀ (α : Type) (a b : α), (a ≠ b) ↔ ¬ a = b)
    ∧ (∀ a b : Bool, ((a && b) = true) ↔ (a = true ∧ b = true)) ∧ (∀ a b : Bool, ((a || b) = true) ↔ (a = true ∨ b = true)) ∧ (∀ a b : Bool, ((a || b) = false) ↔ (a = false ∧ b = false)) ∧ (∀ a : Bool, ((!a) = true) ↔ a = false) ∧ (∀ a : Bool, ((!a) = false) ↔ a = true)
    ∧ (∀ a b : Int, (¬ a < b) ↔ b ≤ a) ∧ (∀ a b : Int, (¬ a ≤ b) ↔ b < a) ∧ (∀ a b : Int, (a > b) ↔ b < a) ∧ (∀ a b : Int, (a ≥ b) ↔ b ≤ a) ∧ (∀ p : Prop, (¬¬p) ↔ p) :=
  ⟨fun _ _ => decide_eq_true_iff, fun _ _ => decide_eq_false_iff_not, fun _ _ _ _ _ => beq_iff_eq, fun _ _ _ _ _ => beq_eq_false_iff_ne, fun _ _ _ _ _ => bne_iff_ne, fun _ _ _ _ _ => bne_eq_false_iff_eq, fun _ _ _ => Iff.rfl, fun _ _ => by simp, fun _ _ => by simp, fun _ _ => by simp, fun _ => by simp, fun _ => by simp, fun _ _ => Int.not_lt, fun _ _ => Int.not_le, fun _ _ => Iff.rfl, fun _ _ => Iff.rfl, fun _ => Classical.not_not⟩
abbrev vS {α : Type} (A : Option Addr) (xs : List α) (c : Nat) : Value := .slice A xs.length c

theorem cc {α : Type} {a b : α} {l m : List α} (h : a = b) (k : l = m) : a :: l = b :: m := by subst h; subst k; rfl
theorem blkC {b : Nat} {l m : List Value} {t : TypeId} (h : l = m) : blk b l t = blk b m t := by subst h; rfl
theorem slC {α : Type} {enc : α → List Value} {xs ys : List α} {A : Option Addr} {c : Nat} {t : TypeId} {sz : Nat} (h : xs = ys) : sl A xs.length c t sz (flat enc xs) = sl A ys.length c t sz (flat enc ys) := by subst h; rfl
def imax (x y : Int) : Int := if y > x then y else x
def imin (x y : Int) : Int := if y < x then y else x
theorem imax_eq (x y : Int) : imax x y = max x y := by unfold imax; omega
theorem imin_eq (x y : Int) : imin x y = min x y := by unfold imin; omega
/-- things Is have become things Os; nothing else has turned -/
structure Turn (Is Os : List Item) (w w' : World) : Prop where
  fr : Fr (feet Is) w w'
  all : ∀ it ∈ Os, it.holds w'
  nodup : (feet Os).Nodup
  own : ∀ b ∈ feet Os, b ∈ feet Is ∨ w.heap.size ≤ b
theorem Turn.of {Is Os K : List Item} {w w' : World} (h : HS w (feet Is) K w') (hs : List.Sublist Os K) : Turn Is Os w w' :=
  have h' := h.sub hs
  ⟨h'.fr, h'.all, h'.nodup, h'.own⟩
theorem Turn.ofP {Is Os K M : List Item} {w w' : World} (h : HS w (feet Is) K w') (hs : List.Sublist M K) (hp : List.Perm M Os) : Turn Is Os w w' :=
  have h' := (h.sub hs).perm hp
  ⟨h'.fr, h'.all, h'.nodup, h'.own⟩
def pull : List Nat → List Item → Option (List Item × List Item)
  | [], H => some ([], H)
  | i :: is, H => match H[i]? with
    | some it => (match pull is (H.eraseIdx i) with | some (a, r) => some (it :: a, r) | none => none)
    | none => none
theorem perm_erase {α : Type} : ∀ {H : List α} {i : Nat} {it : α}, H[i]? = some it → List.Perm H (it :: H.eraseIdx i)
  | [], i, it, h => by simp at h
  | x :: H, 0, it, h => by simp at h; subst h; exact List.Perm.refl _
  | x :: H, i + 1, it, h => by
    simp at h
    have := perm_erase h
    exact (List.Perm.cons x this).trans (List.Perm.swap it x _)
theorem pull_perm : ∀ {is : List Nat} {H Is R : List Item}, pull is H = some (Is, R) → List.Perm H (Is ++ R)
  | [], H, Is, R, h => by simp [pull] at h; obtain ⟨rfl, rfl⟩ := h; exact List.Perm.refl _
  | i :: is, H, Is, R, h => by
    simp only [pull] at h
    cases hi : H[i]? with
    | none => rw [hi] at h; simp at h
    | some it =>
      rw [hi] at h
      simp only at h
      cases hp : pull is (H.eraseIdx i) with
      | none => rw [hp] at h; simp at h
      | some ar =>
        obtain ⟨a, r⟩ := ar
        rw [hp] at h
        simp at h; obtain ⟨rfl, rfl⟩ := h
        exact (perm_erase hi).trans (List.Perm.cons it (pull_perm hp))
theorem HS.focus {w0 : World} {S : List Nat} {H Is R : List Item} {w : World} (h : HS w0 S H w) (hp : List.Perm H (Is ++ R)) : HS w (feet Is) Is w := by
  have h' := h.perm hp
  refine HS.start w Is (fun it hi => h'.all it (List.mem_append.2 (.inl hi))) ?_
  have := h'.nodup
  rw [feet_append] at this
  exact (List.nodup_append.1 this).1
/-- the frame: what is not named stays -/
theorem HS.turned {w0 : World} {S : List Nat} {H Is Os R : List Item} {w w' : World} (h : HS w0 S H w) (hp : List.Perm H (Is ++ R)) (ht : Turn Is Os w w') : HS w0 S (Os ++ R) w' := by
  have h' := h.perm hp
  have hnd := h'.nodup
  rw [feet_append] at hnd
  obtain ⟨n1, n2, n3⟩ := List.nodup_append.1 hnd
  have hlt : ∀ b ∈ feet (Is ++ R), b < w.heap.size := fun b hb => by
    obtain ⟨it, hi, hb'⟩ := List.mem_flatMap.1 hb
    exact it.here w (h'.all it hi) b hb'
  have hIs : ∀ x ∈ feet Is, x ∈ S ∨ w0.heap.size ≤ x := fun x hx => h'.own x (by rw [feet_append]; simp [hx])
  refine ⟨h'.fr.trans' ht.fr hIs, fun it hi => ?_, ?_, fun b hb => ?_⟩
  · rcases List.mem_append.1 hi with hi | hi
    · exact ht.all it hi
    · refine it.loc w w' (fun b hb => ht.fr.block b (it.here w (h'.all it (by simp [hi])) b hb) fun hm => ?_) (h'.all it (by simp [hi]))
      exact n3 b hm b (List.mem_flatMap.2 ⟨it, hi, hb⟩) rfl
  · rw [feet_append]
    refine List.nodup_append.2 ⟨ht.nodup, n2, fun x hx y hy => ?_⟩
    rcases ht.own x hx with h1 | h1
    · exact n3 x h1 y hy
    · have := hlt y (by rw [feet_append]; simp [hy]); omega
  · rw [feet_append] at hb
    rcases List.mem_append.1 hb with hb | hb
    · rcases ht.own b hb with h1 | h1
      · exact hIs b h1
      · right; have := h'.fr.size; omega
    · exact h'.own b (by rw [feet_append]; simp [hb])
section
variable {P : Program} {Q : Exit → Act → World → Prop} {n : Nat} {env : Env} {w0 : World} {S : List Nat} {H : List Item} {ops : Array Oper} {o : Oper} {K : Act → World → Prop}
/-- a call by its contract: the things at places is are handed in -/
theorem A.callT {σ : Type} (d : Option Nat) {f : FuncId} (args : List Value) (is : List Nat) {Is R : List Item} (rv : σ → Value) (φ : σ → Prop) (Os : σ → List Item) (H' : σ → List Item)
    (hok : (headOk ops n env o d && callOk P f) = true) (hx : callArgs env o = some (f, args)) (hp : pull is H = some (Is, R))
    (hc : ∀ w, HS w0 S H w → HS w (feet Is) Is w → Calls P f args.toArray w fun e w' => ∃ x, e = .returned (rv x) ∧ φ x ∧ Turn Is (Os x) w w') (hH : ∀ x, Os x ++ R = H' x)
    (h : ∀ x, φ x → A n (putE env d (rv x)) w0 S (H' x) K) : A n env w0 S H (Step P ops o K) := by
  intro a w r s
  obtain ⟨hok, hf⟩ := Bool.and_eq_true_iff.1 hok
  obtain ⟨h1', h2, h3, h4⟩ := headOk_spec hok
  unfold Step
  rw [if_pos (wanted_of r h1')]
  unfold Oper.wp
  rw [run_callX r hx hf]
  simp only [Oper.upon, h2]
  have hpm := pull_perm hp
  refine (hc w s (s.focus hpm)).mono fun e w' he => ?_
  obtain ⟨x, rfl, hφ, ht⟩ := he
  refine h x hφ _ _ (r.putE h3) ?_
  rw [← hH]
  exact s.turned hpm ht
/-- a call, walked in its caller's place -/
theorem A.inlX (d : Option Nat) {f : FuncId} {fn : Func} {c : Code} (args : List Value) (env' : Env)
    (hok : (headOk ops n env o d && callOk P f && Nat.ble args.length fn.ntmps) = true) (hx : callArgs env o = some (f, args))
    (hfn : P.funcs[f]? = some fn) (hb : fn.body = some c) (he : penv args = env')
    (h : V.A fn.ntmps env' w0 S H (c.wp P (bodyPost P fn (Back n env d K)))) : V.A n env w0 S H (Step P ops o K) := by
  intro a w r s
  obtain ⟨hok, hn⟩ := Bool.and_eq_true_iff.1 hok
  obtain ⟨hok, hf⟩ := Bool.and_eq_true_iff.1 hok
  obtain ⟨h1', h2, h3, h4⟩ := headOk_spec hok
  unfold Step
  rw [if_pos (wanted_of r h1')]
  unfold Oper.wp
  rw [run_callX r hx hf]
  simp only [Oper.upon, h2]
  subst he
  have hc : Calls P f args.toArray w (Back n env d K) := by
    refine calls_of_wp hfn hb (h _ _ ⟨?_, rfl, fun i v hv => ?_⟩ s)
    · have := Nat.le_of_ble_eq_true hn
      simp; omega
    · have hi := look_penv args i v hv
      have hlt : i < args.length := (List.getElem?_eq_some_iff.1 hi).1
      simp only [Array.getD_eq_getD_getElem?]
      rw [Array.getElem?_append_left (by simpa using hlt)]
      simp [hi]
  refine hc.mono fun e w' ⟨v, hv, hk⟩ => ?_
  subst hv
  exact hk a r
/-- a thing told by other things -/
theorem A.reshape {G : Act → World → Prop} {σ : Type} (is : List Nat) {Is R : List Item} (φ : σ → Prop) (Os H' : σ → List Item) (hp : pull is H = some (Is, R))
    (hi : ∀ w, HS w (feet Is) Is w → ∃ x, φ x ∧ (∀ it ∈ Os x, it.holds w) ∧ (feet (Os x)).Nodup ∧ ∀ b ∈ feet (Os x), b ∈ feet Is) (hH : ∀ x, Os x ++ R = H' x) (h : ∀ x, φ x → V.A n env w0 S (H' x) G) : V.A n env w0 S H G := by
  intro a w r s
  have hpm := pull_perm hp
  obtain ⟨x, hφ, h1, h2, h3⟩ := hi w (s.focus hpm)
  have := s.turned hpm (Os := Os x) (w' := w) ⟨Fr.refl _ _, h1, h2, fun b hb => .inl (h3 b hb)⟩
  rw [hH] at this
  exact h x hφ a w r this
/-- the end of a function that writes -/
theorem A.postT {fn : Func} {Is : List Item} {σ : Type} {w : World} {rv : σ → Value} {φ : σ → Prop} {Os : σ → List Item} {H : List Item} (vs : List Value) (hv : ∀ a w1, Rep n env a → HS w (feet Is) H w1 → RVs P w1 a fn.results.toList vs)
    (x : σ) (hx : outOf vs = rv x) (hφ : φ x) (hs : List.Sublist (Os x) H) : V.A n env w (feet Is) H (bodyPost P fn (fun e w' => ∃ x, e = .returned (rv x) ∧ φ x ∧ Turn Is (Os x) w w') .ret) :=
  A.post vs hv fun _ s => ⟨x, by rw [hx], hφ, Turn.of s hs⟩
theorem A.postTn {fn : Func} {Is : List Item} {σ : Type} {w : World} {rv : σ → Value} {φ : σ → Prop} {Os : σ → List Item} {H : List Item} (vs : List Value) (hv : ∀ a w1, Rep n env a → HS w (feet Is) H w1 → RVs P w1 a fn.results.toList vs)
    (x : σ) (hx : outOf vs = rv x) (hφ : φ x) (hs : List.Sublist (Os x) H) : V.A n env w (feet Is) H (bodyPost P fn (fun e w' => ∃ x, e = .returned (rv x) ∧ φ x ∧ Turn Is (Os x) w w') .normal) :=
  A.postn vs hv fun _ s => ⟨x, by rw [hx], hφ, Turn.of s hs⟩
theorem A.postTp {fn : Func} {Is M : List Item} {σ : Type} {w : World} {rv : σ → Value} {φ : σ → Prop} {Os : σ → List Item} {H : List Item} (vs : List Value) (hv : ∀ a w1, Rep n env a → HS w (feet Is) H w1 → RVs P w1 a fn.results.toList vs)
    (x : σ) (hx : outOf vs = rv x) (hφ : φ x) (hs : List.Sublist M H) (hpm : List.Perm M (Os x)) : V.A n env w (feet Is) H (bodyPost P fn (fun e w' => ∃ x, e = .returned (rv x) ∧ φ x ∧ Turn Is (Os x) w w') .ret) :=
  A.post vs hv fun _ s => ⟨x, by rw [hx], hφ, Turn.ofP s hs hpm⟩
/-- .. that writes nothing -/
theorem A.postQ {fn : Func} {w : World} {v : Value} (vs : List Value) (hv : ∀ a w1, Rep n env a → HS w [] H w1 → RVs P w1 a fn.results.toList vs) (hx : outOf vs = v) :
    V.A n env w [] H (bodyPost P fn (fun e w' => e = .returned v ∧ Fr [] w w') .ret) := A.post vs hv fun _ s => ⟨by rw [hx], s.fr⟩
theorem A.postQn {fn : Func} {w : World} {v : Value} (vs : List Value) (hv : ∀ a w1, Rep n env a → HS w [] H w1 → RVs P w1 a fn.results.toList vs) (hx : outOf vs = v) :
    V.A n env w [] H (bodyPost P fn (fun e w' => e = .returned v ∧ Fr [] w w') .normal) := A.postn vs hv fun _ s => ⟨by rw [hx], s.fr⟩
theorem A.setH {G : Act → World → Prop} (H' : List Item) (hH : H = H') (h : V.A n env w0 S H' G) : V.A n env w0 S H G := hH ▸ h
/-- the things at these places, in this order; the others are let go -/
theorem A.pick {G : Act → World → Prop} (is : List Nat) (K : List Item) (hp : (match pull is H with | some x => some x.1 | none => none) = some K) (h : V.A n env w0 S K G) : V.A n env w0 S H G := by
  cases hq : pull is H with
  | none => rw [hq] at hp; cases hp
  | some x =>
    obtain ⟨a, r⟩ := x
    rw [hq] at hp; simp at hp; subst hp
    intro b w hr s
    exact h b w hr ((s.perm (pull_perm hq)).sub (List.sublist_append_left _ _))
theorem A.hereK (is : List Nat) {env' : Env} {K : List Item} (hs : V.sub env env') (hp : (match pull is H with | some x => some x.1 | none => none) = some K) : V.A n env w0 S H (fun a w => Rep n env' a ∧ HS w0 S K w) :=
  A.pick is K hp (A.here hs (List.Sublist.refl _))
theorem Turn.pick {Is Os K : List Item} {w w' : World} (is : List Nat) (h : HS w (feet Is) K w') (hp : (match pull is K with | some x => some x.1 | none => none) = some Os) : Turn Is Os w w' := by
  cases hq : pull is K with
  | none => rw [hq] at hp; cases hp
  | some x =>
    obtain ⟨a, r⟩ := x
    rw [hq] at hp; simp at hp; subst hp
    exact Turn.of (h.perm (pull_perm hq)) (List.sublist_append_left _ _)
theorem A.postK {fn : Func} {Is : List Item} {σ : Type} {w : World} {rv : σ → Value} {φ : σ → Prop} {Os : σ → List Item} {H : List Item} (is : List Nat) (vs : List Value) (hv : ∀ a w1, Rep n env a → HS w (feet Is) H w1 → RVs P w1 a fn.results.toList vs)
    (x : σ) (hx : outOf vs = rv x) (hφ : φ x) (hp : (match pull is H with | some x => some x.1 | none => none) = some (Os x)) : V.A n env w (feet Is) H (bodyPost P fn (fun e w' => ∃ x, e = .returned (rv x) ∧ φ x ∧ Turn Is (Os x) w w') .ret) :=
  A.post vs hv fun _ s => ⟨x, by rw [hx], hφ, Turn.pick is s hp⟩
theorem A.postKn {fn : Func} {Is : List Item} {σ : Type} {w : World} {rv : σ → Value} {φ : σ → Prop} {Os : σ → List Item} {H : List Item} (is : List Nat) (vs : List Value) (hv : ∀ a w1, Rep n env a → HS w (feet Is) H w1 → RVs P w1 a fn.results.toList vs)
    (x : σ) (hx : outOf vs = rv x) (hφ : φ x) (hp : (match pull is H with | some x => some x.1 | none => none) = some (Os x)) : V.A n env w (feet Is) H (bodyPost P fn (fun e w' => ∃ x, e = .returned (rv x) ∧ φ x ∧ Turn Is (Os x) w w') .normal) :=
  A.postn vs hv fun _ s => ⟨x, by rw [hx], hφ, Turn.pick is s hp⟩
theorem reads_view {b off : Nat} {cs vs : List Value} {t : TypeId} (h : ∀ w, HS w0 S H w → w.heap[b]? = some (.cells cs.toArray t (0, 0))) (hv : (cs.drop off).take vs.length = vs) : Reads w0 S H ⟨b, off, none⟩ vs := by
  intro w s j u hu
  rw [add_lit', cell_of_row w b (off + j) cs.toArray t (0, 0) (h w s)]
  rw [← hv, List.getElem?_take] at hu
  split at hu
  · rw [List.getElem?_drop] at hu; simpa using hu
  · cases hu
/-- reads of a thing of a list -/
theorem ixOf {α : Type} {enc : α → List Value} {xs : List α} {A : Option Addr} {m sz : Nat} (he : ∀ x, (enc x).length = sz) (hz : 0 < sz) (hr : Rd w0 S H A (flat enc xs)) (hi : m < xs.length) : Cx.ix ⟨P, w0, S, H⟩ A xs.length (m : Int) := by
  refine ⟨⟨by omega, by omega⟩, fun w s => ?_⟩
  have hlt : 0 < (flat enc xs).length := by rw [flat_len he]; exact Nat.mul_pos (by omega) hz
  exact (hr w s 0 _ (List.getElem?_eq_getElem hlt)).1
theorem reads_at2 {α : Type} {enc : α → List Value} {xs : List α} {A : Option Addr} {m sz f : Nat} {x : α} {vs : List Value} (he : ∀ x, (enc x).length = sz) (hr : Rd w0 S H A (flat enc xs)) (hx : xs[m]? = some x) (hf : f + vs.length ≤ sz) (hv : ((enc x).drop f).take vs.length = vs) :
    Reads w0 S H (((at0 A).add (m * sz)).add f) vs := by rw [add_add']; exact reads_at he hr hx hf hv
end
end Go.Proofs.Ytinnnoimmioaiaa.V
namespace Go.Proofs.Ytinnnoimmioaiaa.V
open Go

def U3 (P : Program) (ops : Array Oper) (K : Act → World → Prop) (B : World → Prop) : Nat → List Nat → (World → Prop) → Array Bool → Act → World → Prop
  | 0, _, _, listed, a, w => Region.ready .any ops listed = [] ∧ ∀ w', Fr [] w w' → K a w'
  | f + 1, L, S, listed, a, w => (Region.ready .any ops listed = [] → ∀ w', Fr [] w w' → K a w') ∧
    ∀ i ∈ Region.ready .any ops listed, ∀ w', Fr [] w w' → wpOp P ops Qf i (fun a' w'' =>
      (L.head? = some i ∧ ∃ S' : World → Prop, (∀ w w', S' w → Fr [] w w' → S' w') ∧ (∀ w, S' w → B w) ∧ S' w'' ∧ U3 P ops K B f L.tail S' (listed.setIfInBounds i true) a' w'') ∨ (L.head? ≠ some i ∧ S w'' ∧ U3 P ops K B f L S (listed.setIfInBounds i true) a' w'')) a w'
section
variable {P : Program} {ops : Array Oper} {K : Act → World → Prop} {S B : World → Prop} {Q : Exit → Act → World → Prop}
theorem U3.up : ∀ {f : Nat} {L : List Nat} {S : World → Prop} {listed : Array Bool} {a : Act} {w w' : World}, U3 P ops K B f L S listed a w → Fr [] w w' → U3 P ops K B f L S listed a w'
  | 0, _, _, _, _, _, _, h, hf => ⟨h.1, fun w'' hf' => h.2 w'' (hf.trans hf')⟩
  | _ + 1, _, _, _, _, _, _, h, hf => ⟨fun h0 w'' hf' => h.1 h0 w'' (hf.trans hf'), fun i hi w'' hf' => h.2 i hi w'' (hf.trans hf')⟩
theorem U3.sound : ∀ (f : Nat) (L : List Nat) (S : World → Prop) (listed : Array Bool) (a : Act) (w : World), U3 P ops (Q .normal) B f L S listed a w → wpAny P .any ops Q f listed a w
  | 0, _, _, _, _, _, h => ⟨h.1, h.2 _ (Fr.refl _ _)⟩
  | f + 1, L, S, _, _, w, h => ⟨fun h0 => h.1 h0 _ (Fr.refl _ _), fun i hi => wpOp_of (h.2 i hi w (Fr.refl _ _)) fun a' w' h' => by
      rcases h' with ⟨_, S', _, _, _, h'⟩ | ⟨_, _, h'⟩
      · exact U3.sound f _ _ _ a' w' h'
      · exact U3.sound f _ _ _ a' w' h'⟩
theorem U3.first {i : Nat} {oi : Oper} {v : Value} (hi : ops[i]? = some oi) (hsel : ∀ (j : Nat) (o : Oper) cs b, ops[j]? = some o → o.op ≠ .select cs b) :
    ∀ (f : Nat) (L : List Nat) (S : World → Prop) (listed : Array Bool) (a : Act) (w : World), (∀ w w', S w → Fr [] w w' → S w') → (∀ w, S w → B w) → i ∉ L →
      (∀ j oj, ops[j]? = some oj → j ≠ i → listed.getD j true = false → (∀ e ∈ oj.after, Region.binds .any e = true → e.on ≠ i) → oi.apart ops oj = true) →
      i ∈ Region.ready .any ops listed → Quiet P ops B oi v a → S w → U3 P ops K B f L S (listed.setIfInBounds i true) (a.put oi.dst v) w → U3 P ops K B (f + 1) L S listed a w := by
  intro f
  induction f with
  | zero =>
    intro L S listed a w hcl hSB hL _ hr hy hS H
    refine ⟨fun h => (by rw [h] at hr; cases hr), fun j hj w' hf => ?_⟩
    by_cases hji : j = i
    · subst hji
      refine hy.wpOp hi (hSB _ (hcl _ _ hS hf)) fun w'' hf' => .inr ⟨fun h => hL (List.mem_of_mem_head? h), hcl _ _ (hcl _ _ hS hf) hf', U3.up H (hf.trans hf')⟩
    · have := ready_mono hj hji
      rw [H.1] at this
      cases this
  | succ f ih =>
    intro L S listed a w hcl hSB hL hfree hr hy hS H
    refine ⟨fun h => (by rw [h] at hr; cases hr), fun j hj w' hf => ?_⟩
    have hS' := hcl _ _ hS hf
    by_cases hji : j = i
    · subst hji
      exact hy.wpOp hi (hSB _ (hcl _ _ hS hf)) fun w'' hf' => .inr ⟨fun h => hL (List.mem_of_mem_head? h), hcl _ _ hS' hf', U3.up H (hf.trans hf')⟩
    · have h1 := H.2 j (ready_mono hj hji) w' hf
      obtain ⟨hjun, oj, hoj, hall⟩ := mem_ready.1 hj
      have hnot : ∀ e ∈ oj.after, Region.binds .any e = true → e.on ≠ i := fun e he hb heq => by
        have h1 := hall e he hb
        have h0 := (mem_ready.1 hr).1
        rw [heq] at h1
        rcases Nat.lt_or_ge i listed.size with h' | h'
        · simp [h'] at h0 h1; rw [h0] at h1; cases h1
        · simp [Array.getElem?_eq_none h'] at h1
      have h2 := wpOp_comm hoj (hfree j oj hoj hji hjun hnot) (fun cs b => hsel i oi cs b hi) (fun cs b => hsel j oj cs b hoj) hy h1
      have hfree' : ∀ k ok, ops[k]? = some ok → k ≠ i → (listed.setIfInBounds j true).getD k true = false → (∀ e ∈ ok.after, Region.binds .any e = true → e.on ≠ i) → oi.apart ops ok = true := fun k ok hk hki hun hno => by
        refine hfree k ok hk hki ?_ hno
        by_cases hjk : j = k
        · subst hjk; exact hjun
        · rw [getD_set_ne true hjk] at hun; exact hun
      refine wpOp_of h2 fun a' w'' h3 => ?_
      obtain ⟨hyq, h3⟩ := h3
      rcases h3 with ⟨hh, S', hcl', hSB', hS3, hU3⟩ | ⟨hh, hS3, hU3⟩
      · refine .inl ⟨hh, S', hcl', hSB', hS3, ih L.tail S' (listed.setIfInBounds j true) a' w'' hcl' hSB' (fun h => hL (List.mem_of_mem_tail h)) hfree' (ready_mono hr (Ne.symm hji)) hyq hS3 ?_⟩
        rw [Array.setIfInBounds_comm _ _ hji]
        exact hU3
      · refine .inr ⟨hh, hS3, ih L S (listed.setIfInBounds j true) a' w'' hcl hSB hL hfree' (ready_mono hr (Ne.symm hji)) hyq hS3 ?_⟩
        rw [Array.setIfInBounds_comm _ _ hji]
        exact hU3
end
def drawOk3 (ops : Array Oper) (L : List Nat) : List Hn → List Nat → Array Bool → Bool
  | [], [], _ => true
  | .o :: hs, l, listed => drawOk3 ops L hs l listed
  | h :: hs, i :: l, listed => (takeOk ops listed i && closedB ops listed) && notIn i L && drawOk3 ops L hs l (listed.setIfInBounds i true)
  | _, _, _ => false
section
variable {P : Program} {Q : Exit → Act → World → Prop} {n : Nat} {env : Env} {w0 : World} {S : List Nat} {H HB : List Item} {ops : Array Oper} {K : Act → World → Prop} {l : List Oper} {o : Oper} {f : Nat} {L : List Nat} {listed : Array Bool}
theorem A.draw3 {id : Nat} (L : List Nat) (k : Nat) (HB : List Item) (hk : (Nat.beq l.length k && P.follows .mixedOrders) = true) (h : A n env w0 S H (U3 P l.toArray (Q .normal) (HS w0 S HB) k L (HS w0 S H) (Array.replicate k false))) :
    A n env w0 S H ((Code.region id l.toArray true).wp P Q) := by
  simp only [Bool.and_eq_true] at hk
  obtain rfl := Nat.eq_of_beq_eq_true hk.1
  exact fun a w r s => wp_region_any hk.2 (U3.sound _ _ _ _ _ _ (by simpa using h a _ r (s.kept (Fr.drew _ _))))
theorem take_core3 {i : Nat} {v : Value} {a : Act} {w : World} (hBH : List.Sublist HB H) (hi : ops[i]? = some o) (ht : (takeOk ops listed i && closedB ops listed) = true) (hL : notIn i L = true) (hq : Quiet P ops (HS w0 S HB) o v a) (s : HS w0 S H w)
    (h : U3 P ops K (HS w0 S HB) f L (HS w0 S H) (listed.setIfInBounds i true) (a.put o.dst v) w) : U3 P ops K (HS w0 S HB) (f + 1) L (HS w0 S H) listed a w := by
  simp only [takeOk, Bool.and_eq_true] at ht
  exact U3.first hi (Region.noSelect_spec ht.1.2) f L (HS w0 S H) listed a w (fun w w' hw hf => hw.kept hf) (fun w hw => hw.sub hBH) (notIn_spec hL) (Region.free_spec hi ht.1.1.1) (by simpa using ht.1.1.2) hq s h
theorem X_draw3 {ids : List Nat} {HB : List Item} {Hc : List Item} (hBH : List.Sublist HB H) : ∀ (hs : List Hn) (order : List Nat) (listed : Array Bool) (base : Env) (fs : List Fm) (clean : Bool), calm hs = true → drawOk3 ops L hs order listed = true → (clean = true → Hc = HB) → (opsAt ops order).length = order.length →
    (∃ r, X P ops n ids hs (opsAt ops order) [] base fs HB clean = some r ∧ Good P n w0 S Hc (fun a w => HS w0 S H w → U3 P ops K (HS w0 S HB) f L (HS w0 S H) (markAll listed order) a w) r) →
    ∀ a w, Ri n base fs a → HS w0 S H w → U3 P ops K (HS w0 S HB) (f + order.length) L (HS w0 S H) listed a w := by
  intro hs
  induction hs with
  | nil =>
    intro order listed base fs clean _ hd hcl hlen ⟨r, hX, hG⟩ a w hr hsp
    cases order with
    | cons i order =>
      cases hi : ops[i]? with
      | none => simp [opsAt, hi] at hlen
      | some o => simp [opsAt, hi, X] at hX
    | nil =>
      simp only [opsAt] at hX
      cases fs with
      | cons f fs => simp [X] at hX
      | nil =>
        simp only [X] at hX
        cases hk : keepE base ids with
        | none => rw [hk] at hX; simp at hX
        | some e =>
          rw [hk] at hX
          simp at hX; subst hX
          exact hG.go a w (keepE_rep hr hk) (hsp.sub hBH) hsp
  | cons h hs ih =>
    intro order listed base fs clean hcalm hd hcl hlen ⟨r, hX, hG⟩ a w hr hsp
    cases order with
    | nil => cases h <;> simp [opsAt, X] at hX
    | cons i order =>
      cases hi : ops[i]? with
      | none => simp [opsAt, hi] at hlen
      | some o =>
        have hlen' : (opsAt ops order).length = order.length := by simpa [opsAt, hi] using hlen
        have hd0 := hd
        simp only [opsAt, hi] at hX
        have simpX : h ≠ .o → calm hs = true → (match guardOk ops base fs o && slotOk n base fs o.dst with
            | true => (match quietV P HB clean (V.full base fs) o h with
              | some q => (match X P ops n ids hs (opsAt ops order) [] (putB base fs o.dst q.v) (putF fs o.dst q.v) HB clean with
                | some r => some (r.add fs q)
                | none => none)
              | none => none)
            | false => none) = some r → U3 P ops K (HS w0 S HB) (f + (i :: order).length) L (HS w0 S H) listed a w := by
          intro hno hcalm hX
          have hd : ((takeOk ops listed i && closedB ops listed) && notIn i L && drawOk3 ops L hs order (listed.setIfInBounds i true)) = true := by
            cases h <;> first | exact absurd rfl hno | exact hd
          obtain ⟨hd1, hd⟩ := Bool.and_eq_true_iff.1 hd
          obtain ⟨ht, hw⟩ := Bool.and_eq_true_iff.1 hd1
          split at hX
          case h_2 => cases hX
          rename_i hgs
          simp only [Bool.and_eq_true] at hgs
          split at hX
          case h_2 => cases hX
          rename_i q hq
          split at hX
          case h_2 => cases hX
          rename_i r' hr'
          simp at hX; subst hX
          have hk : U3 P ops K (HS w0 S HB) (f + order.length) L (HS w0 S H) (listed.setIfInBounds i true) (a.put o.dst (bif cur fs then q.v else undef)) w :=
            ih order _ _ _ clean hcalm hd hcl hlen' ⟨r', hr', hG.tail.1⟩ _ w (hr.put hgs.2) hsp
          exact take_core3 hBH hi ht hw (quiet_of hr hgs.1 (fun hc => quietV_sound (Hc := Hc) hq hG.tail.2.1 (hG.tail.2.2 hc) hcl)) hsp hk
        cases h with
        | p | w e | eq | es | ld j | rd vs | ix | cq v | ct | si u | ss => simp only [X] at hX; exact simpX (by simp) (by simpa [calm] using hcalm) hX
        | st j | al => simp [calm] at hcalm
        | o =>
          simp only [X] at hX
          split at hX
          case h_2 => cases hX
          rename_i j pol hgd
          split at hX
          case h_2 => cases hX
          rename_i d hdd
          split at hX
          case h_2 => cases hX
          rename_i E hE
          exact ih (i :: order) listed base _ clean (by simpa [calm] using hcalm) hd0 hcl hlen ⟨r, by simp only [opsAt, hi]; exact hX, hG⟩ a w (hr.open_ hE) hsp
        | cl =>
          obtain ⟨hd1, hd⟩ := Bool.and_eq_true_iff.1 (show ((takeOk ops listed i && closedB ops listed) && notIn i L && drawOk3 ops L hs order (listed.setIfInBounds i true)) = true from hd)
          obtain ⟨ht, hw⟩ := Bool.and_eq_true_iff.1 hd1
          cases fs with
          | nil => simp [X] at hX
          | cons f1 fs =>
            simp only [X] at hX
            split at hX
            case h_2 => cases hX
            rename_i hgs
            simp only [Bool.and_eq_true] at hgs
            split at hX
            case h_2 => cases hX
            rename_i v hv
            have hq : ∀ SS : World → Prop, Quiet P ops SS o (bif cur fs then v else undef) a := fun SS => by
              cases hc : cur fs with
              | true =>
                refine .inl ⟨by rw [hr.1.wanted hgs.1, hc], fun w s => ?_⟩
                rw [closeV_sound hr hc hv w]
                exact ⟨rfl, Fr.refl _ _⟩
              | false => exact .inr ⟨by rw [hr.1.wanted hgs.1, hc], rfl⟩
            have hk : U3 P ops K (HS w0 S HB) (f + order.length) L (HS w0 S H) (listed.setIfInBounds i true) (a.put o.dst (bif cur fs then v else undef)) w :=
              ih order _ _ _ clean (by simpa [calm] using hcalm) hd hcl hlen' ⟨r, hX, hG⟩ _ w (hr.1.put hgs.2) hsp
            exact take_core3 hBH hi ht hw (hq _) hsp hk
        | sk =>
          obtain ⟨hd1, hd⟩ := Bool.and_eq_true_iff.1 (show ((takeOk ops listed i && closedB ops listed) && notIn i L && drawOk3 ops L hs order (listed.setIfInBounds i true)) = true from hd)
          obtain ⟨ht, hw⟩ := Bool.and_eq_true_iff.1 hd1
          simp only [X] at hX
          split at hX
          case h_2 => cases hX
          rename_i hwt hsl
          have hq : ∀ SS : World → Prop, Quiet P ops SS o undef a := fun SS => .inr ⟨wanted_of hr hwt, rfl⟩
          have hk : U3 P ops K (HS w0 S HB) (f + order.length) L (HS w0 S H) (listed.setIfInBounds i true) (a.put o.dst undef) w :=
            ih order _ _ [] clean (by simpa [calm] using hcalm) hd hcl hlen' ⟨r, hX, hG⟩ _ w (Ri.put (fs := []) (v := undef) hr hsl) hsp
          exact take_core3 hBH hi ht hw (hq _) hsp hk
/-- some quiet operations, whatever else is under way -/
theorem A.drawB {f' : Nat} (f : Nat) (hs : List Hn) (order : List Nat) (env' : Env) (l : List Nat) (C : Cx → Prop)
    (hx : (calm hs && drawOk3 ops L hs order listed && Nat.beq (opsAt ops order).length order.length && Nat.beq f' (f + order.length), X P ops n (ids env') hs (opsAt ops order) [] env [] HB true) = (true, some ⟨env', HB, dup l, C⟩))
    (hBH : List.Sublist HB H) (hc : C ⟨P, w0, S, HB⟩) (h : A n env' w0 S H (U3 P ops K (HS w0 S HB) f L (HS w0 S H) (markAll listed order))) : A n env w0 S H (U3 P ops K (HS w0 S HB) f' L (HS w0 S H) listed) := by
  intro a w r s
  simp only [Prod.mk.injEq, Bool.and_eq_true] at hx
  have hf := Nat.eq_of_beq_eq_true hx.1.2
  rw [hf]
  exact X_draw3 (Hc := HB) hBH hs order listed env [] true hx.1.1.1.1 hx.1.1.1.2 (fun _ => rfl) (Nat.eq_of_beq_eq_true hx.1.1.2) ⟨_, hx.2, dup_ok, hc, fun a w r _ s => h a w r s⟩ a w r s
/-- one quiet operation, whatever else is under way -/
theorem A.takeB (i : Nat) (d : Option Nat) (v : Value) (hi : ops[i]? = some o) (ht : ((takeOk ops listed i && closedB ops listed) && notIn i L) = true) (hok : headOk ops n env o d = true) (hBH : List.Sublist HB H) (hq : Qt P n env w0 S HB o v)
    (h : A n (putE env d v) w0 S H (U3 P ops K (HS w0 S HB) f L (HS w0 S H) (listed.setIfInBounds i true))) : A n env w0 S H (U3 P ops K (HS w0 S HB) (f + 1) L (HS w0 S H) listed) := by
  intro a w r s
  obtain ⟨h1, h2, h3, _⟩ := headOk_spec hok
  obtain ⟨ht1, ht2⟩ := Bool.and_eq_true_iff.1 ht
  refine take_core3 hBH hi ht1 ht2 (.inl ⟨wanted_of r h1, fun w' s' => hq a w' r s'⟩) s ?_
  rw [h2]
  exact h _ w (r.putE h3) s
/-- the operation that writes, when it alone may come up -/
theorem A.only3 (i : Nat) (hi : ops[i]? = some o) (hr : Region.ready .any ops listed = [i])
    (h : A n env w0 S H (Step P ops o (fun a w => ∃ S' : World → Prop, (∀ w w', S' w → Fr [] w w' → S' w') ∧ (∀ w, S' w → HS w0 S HB w) ∧ S' w ∧ U3 P ops K (HS w0 S HB) f L S' (listed.setIfInBounds i true) a w))) : A n env w0 S H (U3 P ops K (HS w0 S HB) (f + 1) (i :: L) (HS w0 S H) listed) := by
  intro a w r s
  refine ⟨fun h0 => (by rw [hr] at h0; cases h0), fun j hj w' hf => ?_⟩
  rw [hr, List.mem_singleton] at hj
  subst hj
  have h1 := h a w' r (s.kept hf)
  unfold Step at h1
  unfold wpOp
  simp only [hi]
  split
  · rename_i hw; rw [if_pos hw] at h1; exact .inl (Oper.wp_imp h1 fun _ _ h => .inl ⟨rfl, h⟩)
  · rename_i hw; rw [if_neg hw] at h1; exact .inl ⟨rfl, h1⟩
theorem A.stage3 (hBH : List.Sublist HB H) (h : A n env w0 S H (U3 P ops K (HS w0 S HB) f L (HS w0 S H) listed)) : A n env w0 S H (fun a w => ∃ S' : World → Prop, (∀ w w', S' w → Fr [] w w' → S' w') ∧ (∀ w, S' w → HS w0 S HB w) ∧ S' w ∧ U3 P ops K (HS w0 S HB) f L S' listed a w) := fun a w r s => ⟨HS w0 S H, fun _ _ hw hf => hw.kept hf, fun _ hw => hw.sub hBH, s, h a w r s⟩
theorem A.fin3 {B : World → Prop} (hr : Region.ready .any ops listed = []) (h : A n env w0 S H K) : A n env w0 S H (U3 P ops K B f L (HS w0 S H) listed) := by
  intro a w r s
  cases f with
  | zero => exact ⟨hr, fun w' hf => h a w' r (s.kept hf)⟩
  | succ f => exact ⟨fun _ w' hf => h a w' r (s.kept hf), by rw [hr]; simp⟩
end
end Go.Proofs.Ytinnnoimmioaiaa.V
namespace Go.Proofs.Ytinnnoimmioaiaa.V
set_option linter.unusedVariables false
set_option linter.unusedSimpArgs false
open Go
open Go.MapKept (run_checkKey run_findKey IsKey heap_set)

/-- what a type of keys must be good for -/
structure KeyOk (P : Program) (kt : TypeId) {κ : Type} (enck : κ → Value) : Prop where
  check : ∀ (k : κ) (em : Bool) (w : World), (Instr.checkKey em 10000 kt (enck k)).run P w = .ok () w
  find : ∀ (k : κ) (l : List (MapEntry × κ)) (w : World), (∀ p ∈ l, p.1.key = enck p.2) →
    (∃ i p, l[i]? = some p ∧ p.2 = k ∧ (Instr.findKey kt (enck k) (l.map (·.1))).run P w = .ok (some (i, p.1.val)) w) ∨ ((∀ p ∈ l, p.2 ≠ k) ∧ (Instr.findKey kt (enck k) (l.map (·.1))).run P w = .ok none w)
  stays : ∀ (k : κ) (w : World), (Instr.keyThatStays (enck k) (enck k)).run P w = .ok (enck k) w

theorem findNow_int {d : TypeDesc} {kk : IntKind} (hd : d = .int kk) (k : Int) : ∀ (l : List (MapEntry × Int)) (i0 : Nat), (∀ p ∈ l, p.1.key = .int kk p.2) →
    (∃ i p, l[i]? = some p ∧ p.2 = k ∧ (∀ j q, l[j]? = some q → j < i → q.2 ≠ k) ∧ Instr.findNow d (.int kk k) (l.map (·.1)) i0 = some (some (i0 + i, p.1.val))) ∨ ((∀ p ∈ l, p.2 ≠ k) ∧ Instr.findNow d (.int kk k) (l.map (·.1)) i0 = some none)
  | [], i0, _ => .inr ⟨by simp, rfl⟩
  | p :: l, i0, h => by
    have hp := h p (by simp)
    subst hd
    have hs : Instr.sameNow (.int kk) (.int kk k) p.1.key = some (k == p.2) := by rw [hp]; simp [Instr.sameNow]
    by_cases hk : p.2 = k
    · refine .inl ⟨0, p, rfl, hk, fun j q _ hj => absurd hj (Nat.not_lt_zero _), ?_⟩
      simp [Instr.findNow, hs, hk]
    · have hb : (k == p.2) = false := by simpa using fun e => hk e.symm
      rcases findNow_int rfl k l (i0 + 1) (fun q hq => h q (by simp [hq])) with ⟨i, q, hq, hqk, hmin, hf⟩ | ⟨hn, hf⟩
      · refine .inl ⟨i + 1, q, by simpa using hq, hqk, fun j r hj hlt => ?_, ?_⟩
        · cases j with
          | zero => simp at hj; subst hj; exact hk
          | succ j => exact hmin j r (by simpa using hj) (by omega)
        · simp only [List.map_cons, Instr.findNow, hs, hb, hf]; congr 3; omega
      · refine .inr ⟨fun q hq => ?_, by simp only [List.map_cons, Instr.findNow, hs, hb, hf]⟩
        rcases List.mem_cons.1 hq with rfl | hq
        · exact hk
        · exact hn q hq
theorem keyOk_int {P : Program} {kt : TypeId} {kk : IntKind} (ht : P.underlying kt = some (.int kk)) : KeyOk P kt (fun k : Int => Value.int kk k) where
  check k em w := run_checkKey ht (by simp [IsKey]) em 9999
  find k l w h := by
    rcases findNow_int rfl k l 0 h with ⟨i, p, h1, h2, h3, h4⟩ | ⟨h1, h2⟩
    · exact .inl ⟨i, p, h1, h2, by rw [run_findKey ht h4]; simp⟩
    · exact .inr ⟨h1, run_findKey ht h2⟩
  stays k w := by simp [Instr.keyThatStays, Instr.sameBits]

/-! a map as a list of keys and values -/
section
variable {κ β : Type}
def mget [DecidableEq κ] : List (κ × β) → κ → Option β
  | [], _ => none
  | p :: l, k => if p.1 = k then some p.2 else mget l k
def mput [DecidableEq κ] : List (κ × β) → κ → β → List (κ × β)
  | [], k, v => [(k, v)]
  | p :: l, k, v => if p.1 = k then (p.1, v) :: l else p :: mput l k v
def mdel [DecidableEq κ] : List (κ × β) → κ → List (κ × β)
  | [], _ => []
  | p :: l, k => if p.1 = k then l else p :: mdel l k
/-- the entries read as the list -/
def Ents (enck : κ → Value) (encv : β → Value) : List MapEntry → List (κ × β) → Prop
  | [], [] => True
  | e :: es, p :: kv => (e.key = enck p.1 ∧ e.val = encv p.2) ∧ Ents enck encv es kv
  | _, _ => False
structure MapH (enck : κ → Value) (encv : β → Value) (b : Nat) (kv : List (κ × β)) (w : World) : Prop where
  ex : ∃ es clock, w.heap[b]? = some (.map es clock) ∧ Ents enck encv es.toList kv ∧ (∀ e ∈ es.toList, e.born < clock) ∧ (es.toList.map (·.born)).Nodup
  keys : (kv.map (·.1)).Nodup
def mapI (enck : κ → Value) (encv : β → Value) (b : Nat) (kv : List (κ × β)) : Item where
  foot := [b]
  holds := MapH enck encv b kv
  loc w w' h hw := by
    obtain ⟨⟨es, c, h1, h2⟩, h3⟩ := hw
    exact ⟨⟨es, c, by rw [h b (by simp)]; exact h1, h2⟩, h3⟩
  here w hw c hc := by
    obtain ⟨⟨es, cl, h1, h2⟩, h3⟩ := hw
    simp at hc; subst hc
    exact (Array.getElem?_eq_some_iff.1 h1).1
theorem Ents.len {enck : κ → Value} {encv : β → Value} : ∀ {es : List MapEntry} {kv : List (κ × β)}, Ents enck encv es kv → es.length = kv.length
  | [], [], _ => rfl
  | _ :: _, _ :: _, h => by simp [Ents.len h.2]
  | [], _ :: _, h => h.elim
  | _ :: _, [], h => h.elim
theorem Ents.zip {enck : κ → Value} {encv : β → Value} : ∀ {es : List MapEntry} {kv : List (κ × β)}, Ents enck encv es kv → (es.zip (kv.map (·.1))).map (·.1) = es ∧ ∀ p ∈ es.zip (kv.map (·.1)), p.1.key = enck p.2
  | [], [], _ => ⟨rfl, by simp⟩
  | e :: es, p :: kv, h => by
    obtain ⟨h1, h2⟩ := Ents.zip h.2
    refine ⟨by simp [h1], fun q hq => ?_⟩
    simp only [List.map_cons, List.zip_cons_cons, List.mem_cons] at hq
    rcases hq with rfl | hq
    · exact h.1.1
    · exact h2 q hq
  | [], _ :: _, h => h.elim
  | _ :: _, [], h => h.elim
theorem Ents.at {enck : κ → Value} {encv : β → Value} : ∀ {es : List MapEntry} {kv : List (κ × β)} {i : Nat} {e : MapEntry} {k : κ}, Ents enck encv es kv → (es.zip (kv.map (·.1)))[i]? = some (e, k) → es[i]? = some e ∧ ∃ v, kv[i]? = some (k, v) ∧ e.val = encv v
  | e' :: es, p :: kv, 0, e, k, h, hi => by
    simp at hi; obtain ⟨rfl, rfl⟩ := hi
    exact ⟨rfl, p.2, rfl, h.1.2⟩
  | e' :: es, p :: kv, i + 1, e, k, h, hi => by
    simp at hi
    obtain ⟨h1, v, h2, h3⟩ := Ents.at (i := i) h.2 (by simpa using hi)
    exact ⟨by simpa using h1, v, by simpa using h2, h3⟩
  | [], [], _, _, _, _, hi => by simp at hi
variable [DecidableEq κ]
theorem mget_at : ∀ {kv : List (κ × β)} {i : Nat} {k : κ} {v : β}, kv[i]? = some (k, v) → (kv.map (·.1)).Nodup → mget kv k = some v
  | p :: kv, 0, k, v, h, _ => by simp at h; subst h; simp [mget]
  | p :: kv, i + 1, k, v, h, hn => by
    simp at h
    rw [List.map_cons] at hn
    have hn' := List.nodup_cons.1 hn
    have hne : p.1 ≠ k := fun e => hn'.1 (by rw [e]; exact List.mem_map.2 ⟨(k, v), List.mem_of_getElem? h, rfl⟩)
    simp only [mget, if_neg hne]
    exact mget_at h hn'.2
theorem mget_none : ∀ {kv : List (κ × β)} {k : κ}, (∀ p ∈ kv, p.1 ≠ k) → mget kv k = none
  | [], _, _ => rfl
  | p :: kv, k, h => by simp only [mget, if_neg (h p (by simp))]; exact mget_none fun q hq => h q (by simp [hq])
end

section
variable {P : Program} {n : Nat} {env : Env} {w0 : World} {S : List Nat} {H : List Item} {ops : Array Oper} {o : Oper} {K : Act → World → Prop} {κ β : Type} [DecidableEq κ]
/-- what is found, in memory -/
theorem run_find {enck : κ → Value} {encv : β → Value} {kt : TypeId} {es : Array MapEntry} {kv : List (κ × β)} (hk : KeyOk P kt enck) (h : Ents enck encv es.toList kv) (hn : (kv.map (·.1)).Nodup) (k : κ) (w : World) :
    (∃ i v, kv[i]? = some (k, v) ∧ (∃ e, es[i]? = some e ∧ e.key = enck k) ∧ mget kv k = some v ∧ (Instr.findKey kt (enck k) es.toList).run P w = .ok (some (i, encv v)) w) ∨ (mget kv k = none ∧ (∀ p ∈ kv, p.1 ≠ k) ∧ (Instr.findKey kt (enck k) es.toList).run P w = .ok none w) := by
  obtain ⟨h1, h2⟩ := h.zip
  rcases hk.find k (es.toList.zip (kv.map (·.1))) w h2 with ⟨i, ⟨e, k'⟩, hi, rfl, hf⟩ | ⟨hn', hf⟩
  · obtain ⟨he, v, hv, hev⟩ := h.at hi
    refine .inl ⟨i, v, hv, ⟨e, by simpa using he, h2 _ (List.mem_of_getElem? hi)⟩, mget_at hv hn, ?_⟩
    rw [h1] at hf; rw [hf, hev]
  · have hall : ∀ p ∈ kv, p.1 ≠ k := by
      intro p hp hpk
      obtain ⟨i, hlt, hget⟩ := List.mem_iff_getElem.1 hp
      have hl : es.toList.length = kv.length := h.len
      have hl2 : i < es.toList.length := by omega
      have hz : (es.toList.zip (kv.map (·.1)))[i]? = some (es.toList[i]'hl2, p.1) := by
        rw [List.getElem?_eq_getElem (by simp only [List.length_zip, List.length_map]; omega)]; simp [hget]
      exact hn' _ (List.mem_of_getElem? hz) hpk
    exact .inr ⟨mget_none hall, hall, by rw [h1] at hf; exact hf⟩
/-- a lookup in a map at hand -/
theorem qt_lookup {enck : κ → Value} {encv : β → Value} {x y : Operand} {t kt et : TypeId} {b : Nat} {kv : List (κ × β)} {k : κ} {d0 : β} {z : Value} (hit : ∀ w, HS w0 S H w → (mapI enck encv b kv).holds w) (ho : o.op = .lookup t x y false) (hx : ev env x = some (.map (some b))) (hy : ev env y = some (enck k))
    (ht : P.underlying t = some (.map kt et)) (hk : KeyOk P kt enck) (hz : (P.info? et).bind (·.zero) = some z) (hd : encv d0 = z) : Qt P n env w0 S H o (encv ((mget kv k).getD d0)) :=
  qt_same fun a w r s => by
    obtain ⟨⟨es, clock, hb, hE, _⟩, hn⟩ := hit w s
    simp only [Option.bind_eq_some_iff] at hz
    obtain ⟨inf, hinf, hz⟩ := hz
    rcases run_find hk hE hn k w with ⟨i, v, _, _, hg, hf⟩ | ⟨hg, _, hf⟩
    · simp [execOp, ho, r.ev hx, r.ev hy, Instr.lookup, run_underlying ht, Go.MapKept.run_getObj_map hb, hk.check, hf, hg]
    · simp [execOp, ho, r.ev hx, r.ev hy, Instr.lookup, run_underlying ht, Go.MapKept.run_getObj_map hb, hk.check, hf, hg, zeroValue, typeInfo, hinf, hz, hd]
theorem qt_lookupOk {enck : κ → Value} {encv : β → Value} {x y : Operand} {t kt et : TypeId} {b : Nat} {kv : List (κ × β)} {k : κ} {d0 : β} {z : Value} (hit : ∀ w, HS w0 S H w → (mapI enck encv b kv).holds w) (ho : o.op = .lookup t x y true) (hx : ev env x = some (.map (some b))) (hy : ev env y = some (enck k))
    (ht : P.underlying t = some (.map kt et)) (hk : KeyOk P kt enck) (hz : (P.info? et).bind (·.zero) = some z) (hd : encv d0 = z) : Qt P n env w0 S H o (.tuple #[encv ((mget kv k).getD d0), .bool (mget kv k).isSome]) :=
  qt_same fun a w r s => by
    obtain ⟨⟨es, clock, hb, hE, _⟩, hn⟩ := hit w s
    simp only [Option.bind_eq_some_iff] at hz
    obtain ⟨inf, hinf, hz⟩ := hz
    rcases run_find hk hE hn k w with ⟨i, v, _, _, hg, hf⟩ | ⟨hg, _, hf⟩
    · simp [execOp, ho, r.ev hx, r.ev hy, Instr.lookup, run_underlying ht, Go.MapKept.run_getObj_map hb, hk.check, hf, hg]
    · simp [execOp, ho, r.ev hx, r.ev hy, Instr.lookup, run_underlying ht, Go.MapKept.run_getObj_map hb, hk.check, hf, hg, zeroValue, typeInfo, hinf, hz, hd]
theorem mput_keys : ∀ (kv : List (κ × β)) (k : κ) (v : β), (mput kv k v).map (·.1) = if k ∈ kv.map (·.1) then kv.map (·.1) else kv.map (·.1) ++ [k]
  | [], k, v => by simp [mput]
  | p :: kv, k, v => by
    unfold mput
    by_cases h : p.1 = k
    · simp [h]
    · have ih := mput_keys kv k v
      rw [if_neg h, List.map_cons, ih, List.map_cons]
      by_cases h2 : k ∈ kv.map (·.1)
      · rw [if_pos h2, if_pos (by simp [h2])]
      · rw [if_neg h2, if_neg (by simp only [List.mem_cons, not_or]; exact ⟨fun e => h e.symm, h2⟩), List.cons_append]
theorem mput_nodup {kv : List (κ × β)} (h : (kv.map (·.1)).Nodup) (k : κ) (v : β) : ((mput kv k v).map (·.1)).Nodup := by
  rw [mput_keys]; split
  · exact h
  · rename_i hk; exact List.nodup_append.2 ⟨h, by simp, fun a ha b hb e => by simp at hb; subst hb; subst e; exact hk ha⟩
theorem mput_at : ∀ {kv : List (κ × β)} {i : Nat} {k : κ} {v : β} (u : β), kv[i]? = some (k, v) → (kv.map (·.1)).Nodup → mput kv k u = kv.set i (k, u)
  | p :: kv, 0, k, v, u, h, _ => by simp at h; subst h; simp [mput]
  | p :: kv, i + 1, k, v, u, h, hn => by
    simp at h
    rw [List.map_cons] at hn
    have hn' := List.nodup_cons.1 hn
    have hne : p.1 ≠ k := fun e => hn'.1 (by rw [e]; exact List.mem_map.2 ⟨(k, v), List.mem_of_getElem? h, rfl⟩)
    simp only [mput, if_neg hne, List.set_cons_succ]
    rw [mput_at u h hn'.2]
theorem mput_new : ∀ {kv : List (κ × β)} {k : κ} (u : β), (∀ p ∈ kv, p.1 ≠ k) → mput kv k u = kv ++ [(k, u)]
  | [], _, _, _ => rfl
  | p :: kv, k, u, h => by simp only [mput, if_neg (h p (by simp)), List.cons_append]; rw [mput_new u fun q hq => h q (by simp [hq])]
omit [DecidableEq κ] in
theorem Ents.set {enck : κ → Value} {encv : β → Value} : ∀ {es : List MapEntry} {kv : List (κ × β)} {i : Nat} {k : κ} {v : β} {e : MapEntry}, Ents enck encv es kv → kv[i]? = some (k, v) → es[i]? = some e → ∀ u, Ents enck encv (es.set i { e with key := enck k, val := encv u }) (kv.set i (k, u))
  | e' :: es, p :: kv, 0, k, v, e, h, _, _, u => ⟨⟨rfl, rfl⟩, h.2⟩
  | e' :: es, p :: kv, i + 1, k, v, e, h, hk, he, u => ⟨h.1, Ents.set (i := i) h.2 (by simpa using hk) (by simpa using he) u⟩
  | [], [], _, _, _, _, _, hk, _, _ => by simp at hk
omit [DecidableEq κ] in
theorem Ents.snoc {enck : κ → Value} {encv : β → Value} {e : MapEntry} {k : κ} {v : β} (he : e.key = enck k ∧ e.val = encv v) : ∀ {es : List MapEntry} {kv : List (κ × β)}, Ents enck encv es kv → Ents enck encv (es ++ [e]) (kv ++ [(k, v)])
  | [], [], _ => ⟨he, trivial⟩
  | _ :: _, _ :: _, h => ⟨h.1, Ents.snoc he h.2⟩
  | [], _ :: _, h => h.elim
  | _ :: _, [], h => h.elim
/-- 'm[k] = v' -/
theorem A.mapPut {enck : κ → Value} {encv : β → Value} (i : Nat) {x y z : Operand} {t kt et : TypeId} {b : Nat} {kv : List (κ × β)} {k : κ} (v : β) (H' : List Item) (hok : headOk ops n env o none = true) (ho : o.op = .mapUpdate t x y z) (hx : ev env x = some (.map (some b))) (hy : ev env y = some (enck k)) (hz : ev env z = some (encv v))
    (ht : P.underlying t = some (.map kt et)) (hk : KeyOk P kt enck) (hi : H[i]? = some (mapI enck encv b kv)) (hH : H.set i (mapI enck encv b (mput kv k v)) = H') (h : V.A n env w0 S H' K) : V.A n env w0 S H (Step P ops o K) := by
  intro a w r s
  obtain ⟨h1', h2, h3, h4⟩ := headOk_spec hok
  unfold Step
  rw [if_pos (wanted_of r h1')]
  obtain ⟨⟨es, clock, hb, hE, hborn, hnd⟩, hn⟩ := s.mem hi
  have key : ∃ es' clock', (execOp a.eval o).run P w = .ok .skip { w with heap := w.heap.setIfInBounds b (.map es' clock') } ∧ Ents enck encv es'.toList (mput kv k v) ∧ (∀ e ∈ es'.toList, e.born < clock') ∧ (es'.toList.map (·.born)).Nodup := by
    rcases run_find hk hE hn k w with ⟨j, u, hj, ⟨e, he, hek⟩, _, hf⟩ | ⟨_, hall, hf⟩
    · have hlt : j < es.size := (Array.getElem?_eq_some_iff.1 he).1
      have hge : es[j] = e := (Array.getElem?_eq_some_iff.1 he).2
      have hm : (es.modify j fun e => { e with key := enck k, val := encv v }).toList = es.toList.set j { e with key := enck k, val := encv v } := by
        apply List.ext_getElem?
        intro q
        simp only [Array.getElem?_toList, Array.getElem?_modify, List.getElem?_set]
        by_cases hq : j = q
        · subst hq; simp [he, hlt, hge]
        · simp [hq]
      have hmem : e ∈ es.toList := by rw [← hge]; simp
      refine ⟨es.modify j fun e => { e with key := enck k, val := encv v }, clock, ?_, ?_, ?_, ?_⟩
      · simp [execOp, ho, r.ev hx, r.ev hy, r.ev hz, Instr.mapUpdate, run_underlying ht, Go.MapKept.run_getObj_map hb, hk.check, hf, he, hek, hk.stays, Go.MapKept.run_setObj_map _ hb]
      · rw [mput_at v hj hn, hm]; exact hE.set hj (by simpa using he) v
      · intro e' he'
        rw [hm] at he'
        rcases List.mem_or_eq_of_mem_set he' with h5 | rfl
        · exact hborn _ h5
        · exact hborn e hmem
      · rw [hm, List.map_set, show (e.born) = (es.toList.map (·.born))[j]'(by simpa using hlt) by simp [hge], List.set_getElem_self]; exact hnd
    · refine ⟨es.push { key := enck k, val := encv v, born := clock }, clock + 1, ?_, ?_, ?_, ?_⟩
      · simp [execOp, ho, r.ev hx, r.ev hy, r.ev hz, Instr.mapUpdate, run_underlying ht, Go.MapKept.run_getObj_map hb, hk.check, hf, Go.MapKept.run_setObj_map _ hb]
      · rw [mput_new v hall, Array.toList_push]; exact Ents.snoc (enck := enck) (encv := encv) (k := k) (v := v) (e := { key := enck k, val := encv v, born := clock }) ⟨rfl, rfl⟩ hE
      · intro e he
        simp only [Array.toList_push, List.mem_append, List.mem_singleton] at he
        rcases he with he | rfl
        · have := hborn e he; omega
        · simp
      · rw [Array.toList_push, List.map_append]
        refine List.nodup_append.2 ⟨hnd, by simp, fun x hx y hy e => ?_⟩
        simp at hy; subst hy; subst e
        obtain ⟨e', he', heq⟩ := List.mem_map.1 hx
        have := hborn e' he'; omega
  obtain ⟨es', clock', hrun, hE', hb', hn'⟩ := key
  unfold Oper.wp
  rw [hrun]
  simp only [Oper.upon, h2]
  refine h _ _ r ?_
  rw [← hH]
  obtain ⟨hs1, hs2⟩ := heap_set (o' := .map es' clock') hb
  exact s.turn (jt := mapI enck encv b (mput kv k v)) hi ⟨rfl, rfl, rfl, by simp, fun q _ hq => hs2 q (by simpa [mapI] using hq)⟩ ⟨⟨es', clock', hs1, hE', hb', hn'⟩, mput_nodup hn k v⟩ (by simp [mapI]) (by simp [mapI])
omit [DecidableEq κ] in
/-- 'make(map[K]V)', 'map[K]V{}' -/
theorem A.makeMap (enck : κ → Value) (encv : β → Value) (d : Nat) {t : TypeId} (hok : headOk ops n env o (some d) = true) (ho : o.op = .makeMap t none) (H' : Nat → List Item) (hH : ∀ b, H ++ [mapI enck encv b []] = H' b)
    (h : ∀ b, V.A n ((d, .map (some b)) :: env) w0 S (H' b) K) : V.A n env w0 S H (Step P ops o K) := by
  intro a w r s
  obtain ⟨h1', h2, h3, h4⟩ := headOk_spec hok
  unfold Step
  rw [if_pos (wanted_of r h1')]
  have hrun : (execOp a.eval o).run P w = .ok (.value (.map (some w.heap.size))) (w.alloc (.map #[] 0)) := by
    simp [execOp, ho, Instr.makeMap, newObj, Sem.run, World.alloc_eq]
  unfold Oper.wp
  rw [hrun]
  simp only [Oper.upon, h2]
  refine h w.heap.size _ _ (r.put (h3 d rfl)) ?_
  rw [← hH]
  exact s.add (it := mapI enck encv w.heap.size []) (Fr.alloc _ _ _) ⟨⟨#[], 0, by have := heap_alloc_new w (.map #[] 0); simpa using this, trivial, by simp, by simp⟩, by simp⟩ (by simp [mapI]) (by simp [mapI])
omit [DecidableEq κ] in
/-- 'len(m)' -/
theorem qt_lenMap {enck : κ → Value} {encv : β → Value} {x : Operand} {t kt et : TypeId} {b : Nat} {kv : List (κ × β)} (hit : ∀ w, HS w0 S H w → (mapI enck encv b kv).holds w) (ho : o.op = .call { callee := .builtin .len, args := #[x], argTypes := #[t] }) (hx : ev env x = some (.map (some b))) (ht : P.underlying t = some (.map kt et)) : Qt P n env w0 S H o (.int .i64 (kv.length : Int)) :=
  qt_same fun a w r s => by
    obtain ⟨⟨es, clock, hb, hE, _⟩, hn⟩ := hit w s
    have := congrArg (fun n : Nat => (n : Int)) hE.len
    simp [execOp, ho, resolve, invoke, builtin, r.ev hx, Builtin.len_, run_underlying ht, Go.MapKept.run_getObj_map hb, goInt]
    simpa using this
end

/-! keys that are arrays or structs -/
theorem run_equal {P : Program} {kt : TypeId} {x y : Value} {b : Bool} (h : eqV P 10000 kt x y = some b) (w : World) : (Op.equal kt x y).run P w = .ok b w := run_eqV (P := P) w _ _ _ _ _ h
theorem findAsking_run {P : Program} {kt : TypeId} {κ : Type} [DecidableEq κ] {enck : κ → Value} (heq : ∀ a b, eqV P 10000 kt (enck a) (enck b) = some (decide (a = b))) (k : κ) (w : World) : ∀ (l : List (MapEntry × κ)) (i0 : Nat), (∀ p ∈ l, p.1.key = enck p.2) →
    (∃ i p, l[i]? = some p ∧ p.2 = k ∧ (Instr.findAsking kt (enck k) (l.map (·.1)) i0).run P w = .ok (some (i0 + i, p.1.val)) w) ∨ ((∀ p ∈ l, p.2 ≠ k) ∧ (Instr.findAsking kt (enck k) (l.map (·.1)) i0).run P w = .ok none w)
  | [], i0, _ => .inr ⟨by simp, by simp [Instr.findAsking]⟩
  | p :: l, i0, h => by
    have hp := h p (by simp)
    have hr := run_equal (heq k p.2) w
    rw [← hp] at hr
    by_cases hk : p.2 = k
    · refine .inl ⟨0, p, rfl, hk, ?_⟩
      simp [Instr.findAsking, hr, hk]
    · have hb : decide (k = p.2) = false := by simpa using fun e => hk e.symm
      rcases findAsking_run heq k w l (i0 + 1) (fun q hq => h q (by simp [hq])) with ⟨i, q, hq, hqk, hf⟩ | ⟨hn, hf⟩
      · refine .inl ⟨i + 1, q, by simpa using hq, hqk, ?_⟩
        simp only [List.map_cons, Instr.findAsking, Sem.run_bind, hr, hb, Result.andThen_ok, Bool.false_eq_true, if_false]
        rw [hf]; congr 3; omega
      · refine .inr ⟨fun q hq => ?_, ?_⟩
        · rcases List.mem_cons.1 hq with rfl | hq
          · exact hk
          · exact hn q hq
        · simp only [List.map_cons, Instr.findAsking, Sem.run_bind, hr, hb, Result.andThen_ok, Bool.false_eq_true, if_false]
          exact hf
theorem findNow_wide {P : Program} {kt : TypeId} (hw : (match P.underlying kt with | some (.array _ _) | some (.struct _) => true | _ => false) = true) (x : Value) (es : List MapEntry) (w : World) : (Instr.findKey kt x es).run P w = (Instr.findAsking kt x es).run P w := by
  cases hu : P.underlying kt with
  | none => simp [hu] at hw
  | some kd =>
    cases es with
    | nil => simp [Instr.findKey, run_underlying hu, Instr.findNow, Instr.findAsking]
    | cons e es => cases kd <;> simp [hu] at hw <;> simp [Instr.findKey, run_underlying hu, Instr.findNow, Instr.sameNow]
theorem keyOk_wide {P : Program} {kt : TypeId} {κ : Type} [DecidableEq κ] {enck : κ → Value} (hw : (match P.underlying kt with | some (.array _ _) | some (.struct _) => true | _ => false) = true)
    (heq : ∀ a b, eqV P 10000 kt (enck a) (enck b) = some (decide (a = b))) (hc : ∀ a em, pureRun P (Instr.checkKey em 10000 kt (enck a)) = some ()) (hs : ∀ a, Instr.sameBits 10000 (enck a) (enck a) = true) : KeyOk P kt enck where
  check k em w := pureRun_run _ _ (hc k em) w
  find k l w h := by
    rw [findNow_wide hw]
    rcases findAsking_run heq k w l 0 h with ⟨i, p, h1, h2, h3⟩ | h1
    · exact .inl ⟨i, p, h1, h2, by simpa using h3⟩
    · exact .inr h1
  stays k w := by simp [Instr.keyThatStays, hs]
end Go.Proofs.Ytinnnoimmioaiaa.V
namespace Go.Proofs.Ytinnnoimmioaiaa.V
set_option linter.unusedVariables false
set_option linter.unusedSimpArgs false
open Go
open Go.MapKept (run_checkKey run_findKey IsKey heap_set)
section
variable {κ β : Type}
theorem Ents.erase {enck : κ → Value} {encv : β → Value} : ∀ {es : List MapEntry} {kv : List (κ × β)} (i : Nat), Ents enck encv es kv → Ents enck encv (es.eraseIdx i) (kv.eraseIdx i)
  | [], [], _, _ => by simp [Ents]
  | _ :: _, _ :: _, 0, h => h.2
  | _ :: _, _ :: _, i + 1, h => ⟨h.1, Ents.erase i h.2⟩
  | [], _ :: _, _, h => h.elim
  | _ :: _, [], _, h => h.elim
variable [DecidableEq κ]
theorem mdel_at : ∀ {kv : List (κ × β)} {i : Nat} {k : κ} {v : β}, kv[i]? = some (k, v) → (kv.map (·.1)).Nodup → mdel kv k = kv.eraseIdx i
  | [], i, k, v, h, _ => by simp at h
  | p :: kv, 0, k, v, h, _ => by simp at h; subst h; simp [mdel]
  | p :: kv, i + 1, k, v, h, hn => by
    simp at h hn
    have hne : ¬ p.1 = k := fun e => hn.1 v (e ▸ List.mem_of_getElem? h)
    simp only [mdel]; rw [if_neg hne, mdel_at h hn.2, List.eraseIdx_cons_succ]
theorem mdel_none : ∀ {kv : List (κ × β)} {k : κ}, (∀ p ∈ kv, p.1 ≠ k) → mdel kv k = kv
  | [], _, _ => rfl
  | p :: kv, k, h => by simp only [mdel]; rw [if_neg (h p (by simp)), mdel_none fun q hq => h q (by simp [hq])]
theorem mdel_nodup {kv : List (κ × β)} (h : (kv.map (·.1)).Nodup) (k : κ) : ((mdel kv k).map (·.1)).Nodup := by
  have : ∀ (kv : List (κ × β)), List.Sublist (mdel kv k) kv := by
    intro kv
    induction kv with
    | nil => simp [mdel]
    | cons p kv ih => simp only [mdel]; split; exact List.sublist_cons_self _ _; exact ih.cons_cons _
  exact h.sublist ((this kv).map _)
theorem mget_mdel {kv : List (κ × β)} (hn : (kv.map (·.1)).Nodup) (k h : κ) : mget (mdel kv k) h = if k = h then none else mget kv h := by
  induction kv with
  | nil => simp [mdel, mget]
  | cons p kv ih =>
    simp only [List.map_cons, List.nodup_cons] at hn
    simp only [mdel]
    by_cases e : p.1 = k
    · rw [if_pos e]; by_cases e2 : k = h
      · rw [if_pos e2]; refine mget_none fun q hq hqe => hn.1 ?_
        rw [e, e2, ← hqe]; exact List.mem_map_of_mem hq
      · rw [if_neg e2]; simp only [mget]; rw [if_neg (fun e3 => e2 (e.symm.trans e3))]
    · rw [if_neg e]; simp only [mget]; rw [ih hn.2]
      by_cases e2 : p.1 = h
      · rw [if_pos e2, if_neg (fun e3 => e (e2.trans e3.symm)), if_pos e2]
      · rw [if_neg e2, if_neg e2]
theorem mget_put {kv : List (κ × β)} (k h : κ) (v : β) : mget (mput kv k v) h = if k = h then some v else mget kv h := by
  induction kv with
  | nil => simp only [mput, mget]
  | cons p kv ih =>
    simp only [mput]
    by_cases e : p.1 = k
    · rw [if_pos e]; simp only [mget]; subst e; by_cases e2 : p.1 = h <;> simp [e2]
    · rw [if_neg e]; simp only [mget]; rw [ih]
      by_cases e2 : p.1 = h
      · rw [if_pos e2, if_neg (by intro h3; exact e (e2.trans h3.symm)), if_pos e2]
      · rw [if_neg e2, if_neg e2]
theorem mget_mem {kv : List (κ × β)} {k : κ} {v : β} (h : mget kv k = some v) : (k, v) ∈ kv := by
  induction kv with
  | nil => simp [mget] at h
  | cons p kv ih =>
    simp only [mget] at h
    by_cases e : p.1 = k
    · rw [if_pos e] at h; cases h; subst e; simp
    · rw [if_neg e] at h; exact List.mem_cons_of_mem _ (ih h)
theorem mget_of_mem {kv : List (κ × β)} (hn : (kv.map (·.1)).Nodup) {k : κ} {v : β} (h : (k, v) ∈ kv) : mget kv k = some v := by
  obtain ⟨i, hi⟩ := List.mem_iff_getElem?.1 h
  exact mget_at hi hn
theorem mput_len_new {kv : List (κ × β)} {k : κ} (v : β) (h : mget kv k = none) : (mput kv k v).length = kv.length + 1 := by
  induction kv with
  | nil => rfl
  | cons p kv ih =>
    simp only [mget] at h; simp only [mput]
    by_cases e : p.1 = k
    · rw [if_pos e] at h; cases h
    · rw [if_neg e] at h; rw [if_neg e]; simp [ih h]
theorem mput_len_old {kv : List (κ × β)} {k : κ} (v : β) (h : mget kv k ≠ none) : (mput kv k v).length = kv.length := by
  induction kv with
  | nil => simp [mget] at h
  | cons p kv ih =>
    simp only [mget] at h; simp only [mput]
    by_cases e : p.1 = k
    · rw [if_pos e]; rfl
    · rw [if_neg e] at h; rw [if_neg e]; simp [ih h]
theorem mdel_len {kv : List (κ × β)} {k : κ} (h : mget kv k ≠ none) : (mdel kv k).length + 1 = kv.length := by
  induction kv with
  | nil => simp [mget] at h
  | cons p kv ih =>
    simp only [mget] at h; simp only [mdel]
    by_cases e : p.1 = k
    · rw [if_pos e]; rfl
    · rw [if_neg e] at h; rw [if_neg e]; simp [ih h]
variable {P : Program} {ops : Array Oper} {n : Nat} {env : Env} {w0 : World} {S : List Nat} {H : List Item} {o : Oper}
/-- 'delete(m, k)' -/
theorem A.mapDel {K : Act → World → Prop} {enck : κ → Value} {encv : β → Value} (i : Nat) {x y : Operand} {t t2 kt et : TypeId} {b : Nat} {kv : List (κ × β)} {k : κ} (H' : List Item) (hok : headOk ops n env o none = true)
    (ho : o.op = .call { callee := .builtin .delete, args := #[x, y], argTypes := #[t, t2] }) (hx : ev env x = some (.map (some b))) (hy : ev env y = some (enck k))
    (ht : P.underlying t = some (.map kt et)) (hk : KeyOk P kt enck) (hi : H[i]? = some (mapI enck encv b kv)) (hH : H.set i (mapI enck encv b (mdel kv k)) = H') (h : V.A n env w0 S H' K) : V.A n env w0 S H (Step P ops o K) := by
  intro a w r s
  obtain ⟨h1', h2, h3, h4⟩ := headOk_spec hok
  unfold Step
  rw [if_pos (wanted_of r h1')]
  obtain ⟨⟨es, clock, hb, hE, hborn, hnd⟩, hn⟩ := s.mem hi
  have key : ∃ es' : Array MapEntry, (execOp a.eval o).run P w = .ok (.value (.tuple #[])) { w with heap := w.heap.setIfInBounds b (.map es' clock) } ∧ Ents enck encv es'.toList (mdel kv k) ∧ (∀ e ∈ es'.toList, e.born < clock) ∧ (es'.toList.map (·.born)).Nodup := by
    rcases run_find hk hE hn k w with ⟨j, u, hj, ⟨e, he, hek⟩, _, hf⟩ | ⟨_, hall, hf⟩
    · have hlt : j < es.size := (Array.getElem?_eq_some_iff.1 he).1
      have hsub : (es.eraseIdxIfInBounds j).toList = es.toList.eraseIdx j := by
        unfold Array.eraseIdxIfInBounds
        simp [hlt]
      have hs : List.Sublist (es.toList.eraseIdx j) es.toList := List.eraseIdx_sublist _ _
      refine ⟨es.eraseIdxIfInBounds j, ?_, ?_, ?_, ?_⟩
      · simp [execOp, ho, resolve, invoke, builtin, r.ev hx, r.ev hy, Builtin.delete_, run_underlying ht, Go.MapKept.run_getObj_map hb, hk.check, hf, Go.MapKept.run_setObj_map _ hb]
      · rw [mdel_at hj hn, hsub]; exact hE.erase j
      · rw [hsub]; exact fun e' he' => hborn e' (hs.subset he')
      · rw [hsub]; exact hnd.sublist (hs.map _)
    · refine ⟨es, ?_, ?_, hborn, hnd⟩
      · simp [execOp, ho, resolve, invoke, builtin, r.ev hx, r.ev hy, Builtin.delete_, run_underlying ht, Go.MapKept.run_getObj_map hb, hk.check, hf, Go.MapKept.run_setObj_map _ hb]
      · rw [mdel_none hall]; exact hE
  obtain ⟨es', hrun, hE', hb', hn'⟩ := key
  unfold Oper.wp
  rw [hrun]
  simp only [Oper.upon, h2]
  refine h _ _ r ?_
  rw [← hH]
  obtain ⟨hs1, hs2⟩ := heap_set (o' := .map es' clock) hb
  exact s.turn (jt := mapI enck encv b (mdel kv k)) hi ⟨rfl, rfl, rfl, by simp, fun q _ hq => hs2 q (by simpa [mapI] using hq)⟩ ⟨⟨es', clock, hs1, hE', hb', hn'⟩, mdel_nodup hn k⟩ (by simp [mapI]) (by simp [mapI])
end
end Go.Proofs.Ytinnnoimmioaiaa.V
namespace Go.Proofs.Ytinnnoimmioaiaa.V
set_option linter.unusedVariables false
set_option linter.unusedSimpArgs false
open Go
section
variable {P : Program} {n : Nat} {env : Env} {w0 : World} {S : List Nat} {H : List Item} {ops : Array Oper} {o : Oper} {α : Type}
def cutA (A : Option Addr) (c m sz : Nat) : Option Addr := if c = m then A else A.map (·.add (m * sz))
theorem qt_takeS {xs : List α} {A : Option Addr} {c : Nat} {x y : Operand} {t e : TypeId} {sz : Nat} (m : Nat) (ho : o.op = .slice t x none (some y) none) (hx : ev env x = some (.slice A xs.length c)) (hy : ev env y = some (.int .i64 (m : Int)))
    (ht : P.underlying t = some (.slice e)) (hinf : (P.info? e).map (·.size) = some sz) (hm : m ≤ xs.length) (hc : ∀ w, HS w0 S H w → xs.length ≤ c) : Qt P n env w0 S H o (.slice A (xs.take m).length c) :=
  qt_same fun a w r s => by
    obtain ⟨i, hi, hsz⟩ := Option.map_eq_some_iff.1 hinf
    have hc := hc w s
    have e1 : (xs.take m).length = m := by simp; omega
    have e2 : m ≤ c := by omega
    cases A <;> simp [execOp, ho, r.ev hx, r.ev hy, Instr.sliceAt, Instr.slice, run_underlying ht, Instr.sliceBounds, Instr.sliceBound, asIntOf, sizeOf, typeInfo, hi, hsz, e1, e2, Addr.add]
theorem qt_dropS {xs : List α} {A : Option Addr} {c : Nat} {x y : Operand} {t e : TypeId} {sz : Nat} (m : Nat) (ho : o.op = .slice t x (some y) none none) (hx : ev env x = some (.slice A xs.length c)) (hy : ev env y = some (.int .i64 (m : Int)))
    (ht : P.underlying t = some (.slice e)) (hinf : (P.info? e).map (·.size) = some sz) (hm : m ≤ xs.length) (hc : ∀ w, HS w0 S H w → xs.length ≤ c) : Qt P n env w0 S H o (.slice (cutA A c m sz) (xs.drop m).length (c - m)) :=
  qt_same fun a w r s => by
    obtain ⟨i, hi, hsz⟩ := Option.map_eq_some_iff.1 hinf
    have hc := hc w s
    have e1 : (xs.drop m).length = xs.length - m := by simp
    simp [execOp, ho, r.ev hx, r.ev hy, Instr.sliceAt, Instr.slice, run_underlying ht, Instr.sliceBounds, Instr.sliceBound, asIntOf, sizeOf, typeInfo, hi, hsz, e1, hm, cutA]
theorem rd_take {enc : α → List Value} {sz : Nat} {A : Option Addr} {xs : List α} (he : ∀ x, (enc x).length = sz) (h : Rd w0 S H A (flat enc xs)) (m : Nat) : Rd w0 S H A (flat enc (xs.take m)) := fun w hs j u hj => by
  refine h w hs j u ?_
  have : flat enc xs = flat enc (xs.take m) ++ flat enc (xs.drop m) := by
    unfold flat; rw [← List.flatMap_append, List.take_append_drop]
  rw [this, List.getElem?_append_left (List.getElem?_eq_some_iff.1 hj).1]; exact hj
theorem arr_drop {enc : α → List Value} {sz : Nat} {A : Option Addr} {xs : List α} {w : World} (he : ∀ x, (enc x).length = sz) (h : arrAt w A (flat enc xs)) {m c : Nat} (hm : m ≤ xs.length) (hc : xs.length ≤ c) : arrAt w (cutA A c m sz) (flat enc (xs.drop m)) := fun j u hj => by
  unfold cutA
  by_cases hcm : c = m
  · rw [List.drop_eq_nil_of_le (by omega)] at hj; simp [flat] at hj
  · rw [if_neg hcm]
    have hfl : flat enc xs = flat enc (xs.take m) ++ flat enc (xs.drop m) := by
      unfold flat; rw [← List.flatMap_append, List.take_append_drop]
    have hlen : (flat enc (xs.take m)).length = m * sz := by rw [flat_len he, List.length_take, Nat.min_eq_left hm]
    obtain ⟨h1, h2⟩ := h (m * sz + j) u (by rw [hfl, List.getElem?_append_right (by omega), hlen]; simpa using hj)
    cases A with
    | none => simp at h1
    | some a =>
      refine ⟨rfl, ?_⟩
      simp only [at0, Option.map_some, Option.getD_some] at h2 ⊢
      rw [add_add']; exact h2
theorem sl_cap {A : Option Addr} {k c : Nat} {t : TypeId} {sz : Nat} {cs : List Value} {w : World} (h : (sl A k c t sz cs).holds w) : k ≤ c := h.2.1
theorem rd_drop {enc : α → List Value} {sz : Nat} {A : Option Addr} {xs : List α} (he : ∀ x, (enc x).length = sz) (h : Rd w0 S H A (flat enc xs)) {m c : Nat} (hm : m ≤ xs.length) (hc : ∀ w, HS w0 S H w → xs.length ≤ c) : Rd w0 S H (cutA A c m sz) (flat enc (xs.drop m)) :=
  fun w hs => arr_drop he (h w hs) hm (hc w hs)
end
end Go.Proofs.Ytinnnoimmioaiaa.V
namespace Go.Proofs.Ytinnnoimmioaiaa.V
set_option linter.unusedVariables false
set_option linter.unusedSimpArgs false
open Go Go.RowKit Go.Maps Go.Sort Go.WideElems
def R0 : Value → Option (DataW Unit × List MemPlace) := fun _ => some (.lit (.bool true), [])
def I64 (x : Int) : Prop := -9223372036854775808 ≤ x ∧ x ≤ 9223372036854775807
def sortK {β : Type} (kv : List (Int × β)) : List Int := (kv.map (·.1)).mergeSort fun x y => decide (x ≤ y)
section
variable {β : Type} {encv : β → Value} {P : Program} {kt : TypeId}
theorem keyOf_i (hk : P.underlying kt = some (.int .i64)) {x : Int} (hx : I64 x) : keyOf P kt (.int .i64 x) = some (.int .i64 x) := by
  have hw : (Lit.int .i64 x).wf = true := by
    obtain ⟨h1, h2⟩ := hx
    have e1 : IntKind.i64.min = -9223372036854775808 := by decide
    have e2 : IntKind.i64.max = 9223372036854775807 := by decide
    simp only [Lit.wf, e1, e2]; simp; omega
  simp [keyOf, hk, mapKey, hw]
theorem Ents.rgs (hk : P.underlying kt = some (.int .i64)) : ∀ {es : List MapEntry} {kv : List (Int × β)}, Ents (fun k : Int => Value.int .i64 k) encv es kv → (∀ p ∈ kv, I64 p.1) →
    es.map (rg P kt R0) = kv.map (fun p => ((Lit.int .i64 p.1 : Lit), (DataW.lit (.bool true) : DataW Unit))) ∧ (∀ x ∈ es, ∃ y, rd P kt R0 x = some y) ∧ es.map (·.key) = kv.map (fun p => Value.int .i64 p.1)
  | [], [], _, _ => by simp
  | e :: es, p :: kv, h, hr => by
    obtain ⟨⟨h1, h2⟩, h3⟩ := h
    obtain ⟨a, b, c⟩ := Ents.rgs hk h3 fun q hq => hr q (by simp [hq])
    have hrd : rd P kt R0 e = some (.int .i64 p.1, .lit (.bool true)) := by
      unfold rd; rw [h1, keyOf_i hk (hr p (by simp))]; rfl
    refine ⟨?_, ?_, ?_⟩
    · simp only [List.map_cons, a, rg_of hrd]
    · intro x hx
      rcases List.mem_cons.1 hx with rfl | hx
      · exact ⟨_, hrd⟩
      · exact b x hx
    · simp only [List.map_cons, c, h1]
  | [], _ :: _, h, _ => h.elim
  | _ :: _, [], h, _ => h.elim
theorem mapOwned {b : Nat} {kv : List (Int × β)} {w : World} (hk : P.underlying kt = some (.int .i64)) (h : (mapI (fun k : Int => Value.int .i64 k) encv b kv).holds w) (hr : ∀ p ∈ kv, I64 p.1) (hl : kv.length ≤ 1000000) :
    ∃ D0 : DataW Unit, w.ownsMap P kt R0 b kv.length D0 ∧ (intKeys D0).Perm (kv.map (·.1)) ∧ Maps.size D0 = kv.length := by
  obtain ⟨⟨es, clock, hb, hE, hborn, hnd⟩, hn⟩ := h
  obtain ⟨h1, h2, h3⟩ := hE.rgs hk hr
  have hlen := hE.len
  refine ⟨_, ⟨es, clock, hb, ⟨by simp only [maxLen]; simp at hlen; omega, ⟨hborn, hnd, ?_⟩, h2⟩, by simp at hlen; omega, rfl⟩, ?_, ?_⟩
  · rw [h3]
    have : kv.map (fun p => Value.int .i64 p.1) = (kv.map (·.1)).map (Value.int .i64) := by simp
    rw [this]; exact List.Pairwise.map _ (fun a b hab e => hab (by cases e; rfl)) hn
  · have hp := (Go.WideShapes.sorted_perm (es.toList.map (rg P kt R0))).map (fun p => intOf p.1)
    rw [h1] at hp ⊢
    have e : (kv.map (fun p => ((Lit.int .i64 p.1 : Lit), (DataW.lit (.bool true) : DataW Unit)))).map (fun p => intOf p.1) = kv.map (·.1) := by rw [List.map_map]; rfl
    rw [e] at hp; exact hp
  · have hp := (Go.WideShapes.sorted_perm (es.toList.map (rg P kt R0))).length_eq
    simp at hp hlen
    simp [Maps.size, hp, hlen]
end
theorem turn_of_row {w w' : World} {e : TypeId} {v : Value} {ys : List Int} {enc : Int → List Value} (he : ∀ x, enc x = [Value.int .i64 x]) (hrow : w'.ownsRow w.heap.size e 1 v ys.length (ys.map encZ)) (hb : Go.RowKit.Below w.heap.size w w') :
    ∃ (A : Option Addr) (c : Nat), v = .slice A ys.length c ∧ Turn [] [sl A ys.length c e 1 (flat enc ys)] w w' := by
  have hf : flat enc ys = ys.map encZ := by
    clear hrow
    induction ys with
    | nil => rfl
    | cons y ys ih => simp only [flat, List.flatMap_cons, he, List.map_cons] at ih ⊢; rw [ih]; rfl
  rcases hrow.2 with ⟨rfl, hz⟩ | ⟨g, cap, cur, rfl, hbase, hgb, r1, r2, r3, r4⟩
  · have : ys = [] := List.eq_nil_of_length_eq_zero hz
    subst this
    exact ⟨none, 0, rfl, ⟨Fr.of_below hb, by intro it hi; simp at hi; subst hi; exact sl_nil _ _ _, by simp [feet, sl, slFoot], by simp [feet, sl, slFoot]⟩⟩
  · refine ⟨some ⟨g, 0, none⟩, cap, rfl, ⟨Fr.of_below hb, ?_, by simp [feet, sl, slFoot], by simp [feet, sl, slFoot]; exact hbase⟩⟩
    intro it hi; simp only [List.mem_singleton] at hi; subst hi
    exact ⟨by rw [hf]; simp, r1, r2, .inr ⟨g, 0, cur, rfl, hgb, by omega, by rw [hf]; simpa using r4⟩⟩
end Go.Proofs.Ytinnnoimmioaiaa.V
namespace Go.Proofs.Ytinnnoimmioaiaa.V
set_option linter.unusedVariables false
set_option linter.unusedSimpArgs false
open Go
/-- a slice that a map holds: where it lies, its room, what it has -/
structure SL where
  sa : Option Addr
  sc : Nat
  sx : List Int
  deriving Inhabited
def slV (s : SL) : Value := .slice s.sa s.sx.length s.sc
def bagFoot (kv : List (Int × SL)) : List Nat := kv.flatMap fun p => slFoot p.2.sa
/-- all the slices' arrays, owned -/
def bagI (t : TypeId) (enc : Int → List Value) (kv : List (Int × SL)) : Item where
  foot := bagFoot kv
  holds w := ∀ p ∈ kv, (sl p.2.sa p.2.sx.length p.2.sc t 1 (flat enc p.2.sx)).holds w
  loc w w' h hw p hp := (sl p.2.sa p.2.sx.length p.2.sc t 1 (flat enc p.2.sx)).loc w w' (fun b hb => h b (List.mem_flatMap.2 ⟨p, hp, hb⟩)) (hw p hp)
  here w hw b hb := by
    obtain ⟨p, hp, hb⟩ := List.mem_flatMap.1 hb
    exact (sl p.2.sa p.2.sx.length p.2.sc t 1 (flat enc p.2.sx)).here w (hw p hp) b hb
def sl0 : SL := ⟨none, 0, []⟩
theorem mput_perm (k : Int) (s : SL) : ∀ kv : List (Int × SL), (mput kv k s).Perm ((k, s) :: mdel kv k)
  | [] => .refl _
  | p :: kv => by
    simp only [mput, mdel]
    by_cases e : p.1 = k
    · rw [if_pos e, if_pos e, e]
    · rw [if_neg e, if_neg e]; exact ((mput_perm k s kv).cons p).trans (.swap _ _ _)
theorem mget_perm {k : Int} {s : SL} : ∀ {kv : List (Int × SL)}, mget kv k = some s → kv.Perm ((k, s) :: mdel kv k)
  | [], h => by simp [mget] at h
  | p :: kv, h => by
    simp only [mget] at h; simp only [mdel]
    by_cases e : p.1 = k
    · rw [if_pos e] at h ⊢; cases h; rw [← e]
    · rw [if_neg e] at h ⊢; exact ((mget_perm h).cons p).trans (.swap _ _ _)
theorem mdel_same {k : Int} : ∀ {kv : List (Int × SL)}, mget kv k = none → mdel kv k = kv
  | [], _ => rfl
  | p :: kv, h => by
    simp only [mget] at h; simp only [mdel]
    by_cases e : p.1 = k
    · rw [if_pos e] at h; cases h
    · rw [if_neg e] at h; rw [if_neg e, mdel_same h]
section
variable {t : TypeId} {enc : Int → List Value}
theorem bag_get {kv : List (Int × SL)} {w : World} (h : (bagI t enc kv).holds w) (k : Int) : (sl ((mget kv k).getD sl0).sa ((mget kv k).getD sl0).sx.length ((mget kv k).getD sl0).sc t 1 (flat enc ((mget kv k).getD sl0).sx)).holds w := by
  cases e : mget kv k with
  | none => exact sl_nil _ _ _
  | some s => exact h (k, s) (mget_mem e)
theorem bag_open (kv : List (Int × SL)) (k : Int) {w : World} (hs : HS w (feet [bagI t enc kv]) [bagI t enc kv] w) :
    ∃ _x : Unit, True ∧ (∀ it ∈ [bagI t enc (mdel kv k), sl ((mget kv k).getD sl0).sa ((mget kv k).getD sl0).sx.length ((mget kv k).getD sl0).sc t 1 (flat enc ((mget kv k).getD sl0).sx)], it.holds w) ∧
      (feet [bagI t enc (mdel kv k), sl ((mget kv k).getD sl0).sa ((mget kv k).getD sl0).sx.length ((mget kv k).getD sl0).sc t 1 (flat enc ((mget kv k).getD sl0).sx)]).Nodup ∧
      ∀ b ∈ feet [bagI t enc (mdel kv k), sl ((mget kv k).getD sl0).sa ((mget kv k).getD sl0).sx.length ((mget kv k).getD sl0).sc t 1 (flat enc ((mget kv k).getD sl0).sx)], b ∈ feet [bagI t enc kv] := by
  have hb : (bagI t enc kv).holds w := hs.all _ (by simp)
  have hn := hs.nodup
  have hsub : ∀ p ∈ mdel kv k, p ∈ kv := by
    intro p hp; cases e : mget kv k with
    | none => rw [mdel_same e] at hp; exact hp
    | some s => exact (mget_perm e).mem_iff.2 (by simp [hp])
  have hp : (bagFoot (mdel kv k) ++ slFoot ((mget kv k).getD sl0).sa).Perm (bagFoot kv) := by
    cases e : mget kv k with
    | none => rw [mdel_same e]; simp [sl0, slFoot]
    | some s =>
      have := (mget_perm e).flatMap_right (fun p : Int × SL => slFoot p.2.sa)
      simp only [List.flatMap_cons] at this
      exact List.perm_append_comm.trans this.symm
  refine ⟨(), trivial, ?_, ?_, ?_⟩
  · intro it hi
    simp only [List.mem_cons, List.not_mem_nil, or_false] at hi
    rcases hi with rfl | rfl
    · exact fun p hp => hb p (hsub p hp)
    · exact bag_get hb k
  · simp only [feet, bagI, sl, List.flatMap_cons, List.flatMap_nil, List.append_nil] at hn ⊢
    exact hp.nodup_iff.2 hn
  · intro b hb2
    simp only [feet, bagI, sl, List.flatMap_cons, List.flatMap_nil, List.append_nil] at hb2 ⊢
    exact hp.mem_iff.1 hb2
theorem bag_fold (kv : List (Int × SL)) (k : Int) (A : Option Addr) (c : Nat) (xs : List Int) {w : World} (hs : HS w (feet [bagI t enc (mdel kv k), sl A xs.length c t 1 (flat enc xs)]) [bagI t enc (mdel kv k), sl A xs.length c t 1 (flat enc xs)] w) :
    ∃ _x : Unit, True ∧ (∀ it ∈ [bagI t enc (mput kv k ⟨A, c, xs⟩)], it.holds w) ∧ (feet [bagI t enc (mput kv k ⟨A, c, xs⟩)]).Nodup ∧ ∀ b ∈ feet [bagI t enc (mput kv k ⟨A, c, xs⟩)], b ∈ feet [bagI t enc (mdel kv k), sl A xs.length c t 1 (flat enc xs)] := by
  have hb : (bagI t enc (mdel kv k)).holds w := hs.all _ (by simp)
  have hq : (sl A xs.length c t 1 (flat enc xs)).holds w := hs.all _ (by simp)
  have hn := hs.nodup
  have hp : (bagFoot (mput kv k ⟨A, c, xs⟩)).Perm (bagFoot (mdel kv k) ++ slFoot A) := by
    have := (mput_perm k ⟨A, c, xs⟩ kv).flatMap_right (fun p : Int × SL => slFoot p.2.sa)
    simp only [List.flatMap_cons] at this
    exact this.trans List.perm_append_comm
  refine ⟨(), trivial, ?_, ?_, ?_⟩
  · intro it hi
    simp only [List.mem_singleton] at hi; subst hi
    intro p hp
    rcases List.mem_cons.1 ((mput_perm k _ kv).mem_iff.1 hp) with rfl | h
    · exact hq
    · exact hb p h
  · simp only [feet, bagI, sl, List.flatMap_cons, List.flatMap_nil, List.append_nil] at hn ⊢
    exact hp.nodup_iff.2 hn
  · intro b hb2
    simp only [feet, bagI, sl, List.flatMap_cons, List.flatMap_nil, List.append_nil] at hb2 ⊢
    exact hp.mem_iff.1 hb2
theorem sl_cut {A : Option Addr} {c : Nat} {x : Int} {xs : List Int} {w : World} (he : ∀ x, (enc x).length = 1) (h : (sl A (x :: xs).length c t 1 (flat enc (x :: xs))).holds w) : (sl (cutA A c 1 1) xs.length (c - 1) t 1 (flat enc xs)).holds w := by
  obtain ⟨h1, h2, h3, h4⟩ := h
  simp only [List.length_cons] at h1 h2
  have hl : (flat enc xs).length = xs.length := by rw [flat_len he]; simp
  have hf : flat enc (x :: xs) = enc x ++ flat enc xs := by simp [flat]
  rcases h4 with ⟨rfl, rfl⟩ | ⟨g, off, cur, rfl, hg, hsz, hcs⟩
  · omega
  · refine ⟨by omega, by omega, by omega, .inr ?_⟩
    unfold cutA
    by_cases hc : c = 1
    · rw [if_pos hc]
      have : xs = [] := List.eq_nil_of_length_eq_zero (by omega)
      subst this
      exact ⟨g, off, cur, rfl, hg, by omega, by simp [flat]⟩
    · rw [if_neg hc]
      refine ⟨g, off + 1, cur, rfl, hg, by omega, ?_⟩
      have e1 := congrArg (List.drop 1) hcs
      rw [hf] at e1
      have e2 : (enc x ++ flat enc xs).drop 1 = flat enc xs := by rw [List.drop_append_of_le_length (by rw [he]; exact Nat.le_refl _), List.drop_eq_nil_of_le (by rw [he]; exact Nat.le_refl _)]; rfl
      rw [e2, List.drop_take, List.drop_drop] at e1
      simp only [List.length_cons] at e1
      rw [← e1]; congr 1
theorem slFoot_cutA (A : Option Addr) (c m sz : Nat) : slFoot (cutA A c m sz) = slFoot A := by
  unfold cutA; split
  · rfl
  · cases A with
    | none => rfl
    | some a => simp [slFoot, Addr.add]; split <;> rfl
theorem bag_cut (he : ∀ x, (enc x).length = 1) (kv : List (Int × SL)) (k : Int) (h1 : 1 ≤ ((mget kv k).getD sl0).sx.length) {w : World} (hs : HS w (feet [bagI t enc kv]) [bagI t enc kv] w) :
    ∃ _x : Unit, True ∧ (∀ it ∈ [bagI t enc (mput kv k ⟨cutA ((mget kv k).getD sl0).sa ((mget kv k).getD sl0).sc 1 1, ((mget kv k).getD sl0).sc - 1, ((mget kv k).getD sl0).sx.drop 1⟩)], it.holds w) ∧
      (feet [bagI t enc (mput kv k ⟨cutA ((mget kv k).getD sl0).sa ((mget kv k).getD sl0).sc 1 1, ((mget kv k).getD sl0).sc - 1, ((mget kv k).getD sl0).sx.drop 1⟩)]).Nodup ∧
      ∀ b ∈ feet [bagI t enc (mput kv k ⟨cutA ((mget kv k).getD sl0).sa ((mget kv k).getD sl0).sc 1 1, ((mget kv k).getD sl0).sc - 1, ((mget kv k).getD sl0).sx.drop 1⟩)], b ∈ feet [bagI t enc kv] := by
  have hb : (bagI t enc kv).holds w := hs.all _ (by simp)
  have hn := hs.nodup
  cases e : mget kv k with
  | none => rw [e] at h1; simp [sl0] at h1
  | some s =>
    rw [e] at h1
    simp only [Option.getD_some] at h1 ⊢
    have hpm := mget_perm e
    have hp : (bagFoot (mput kv k ⟨cutA s.sa s.sc 1 1, s.sc - 1, s.sx.drop 1⟩)).Perm (bagFoot kv) := by
      have a1 := (mput_perm k ⟨cutA s.sa s.sc 1 1, s.sc - 1, s.sx.drop 1⟩ kv).flatMap_right (fun p : Int × SL => slFoot p.2.sa)
      have a2 := hpm.flatMap_right (fun p : Int × SL => slFoot p.2.sa)
      simp only [List.flatMap_cons, slFoot_cutA] at a1 a2
      exact a1.trans a2.symm
    refine ⟨(), trivial, ?_, ?_, ?_⟩
    · intro it hi
      simp only [List.mem_singleton] at hi; subst hi
      intro p hp
      rcases List.mem_cons.1 ((mput_perm k _ kv).mem_iff.1 hp) with rfl | h
      · have h2 := hb (k, s) (mget_mem e)
        cases hx : s.sx with
        | nil => rw [hx] at h1; simp at h1
        | cons x xs => simp only [hx] at h2; exact sl_cut he h2
      · exact hb p (hpm.mem_iff.2 (by simp [h]))
    · simp only [feet, bagI, List.flatMap_cons, List.flatMap_nil, List.append_nil] at hn ⊢
      exact hp.nodup_iff.2 hn
    · intro b hb2
      simp only [feet, bagI, List.flatMap_cons, List.flatMap_nil, List.append_nil] at hb2 ⊢
      exact hp.mem_iff.1 hb2
end
section
variable {w0 : World} {S : List Nat} {H : List Item} {t : TypeId} {enc : Int → List Value} {kv : List (Int × SL)}
theorem rd_bag (i : Nat) (hi : H[i]? = some (bagI t enc kv)) (k : Int) : Rd w0 S H ((mget kv k).getD sl0).sa (flat enc ((mget kv k).getD sl0).sx) := fun w hs => arr_sl (bag_get (hs.mem hi) k)
theorem bag_capS (i : Nat) (hi : H[i]? = some (bagI t enc kv)) (k : Int) : ∀ w, HS w0 S H w → ((mget kv k).getD sl0).sx.length ≤ ((mget kv k).getD sl0).sc := fun w hs => (bag_get (hs.mem hi) k).2.1
theorem A.bagNil {n : Nat} {env : Env} {G : Act → World → Prop} (t : TypeId) (enc : Int → List Value) (H' : List Item) (hH : H ++ [bagI t enc []] = H') (h : V.A n env w0 S H' G) : V.A n env w0 S H G := fun a w r s =>
  h a w r (by rw [← hH]; exact s.add (Fr.refl _ _) (by intro p hp; cases hp) (by simp [bagI, bagFoot]) (by simp [bagI, bagFoot]))
end
section
variable {P : Program} {n : Nat} {env : Env} {w0 : World} {S : List Nat} {H : List Item} {ops : Array Oper} {o : Oper} {K : Act → World → Prop} {f : Nat} {L : List Nat} {listed : Array Bool}
theorem A.fork3 (i i2 j : Nat) {o2 o' : Oper} (hi : ops[i]? = some o) (hi2 : ops[i2]? = some o2) (hj : ops[j]? = some o') (hr : (Region.ready .any ops listed, Nat.beq i j || Nat.beq i2 j) = ([i, i2, j], false))
    (h1 : A n env w0 S H (Step P ops o (fun a w => HS w0 S H w ∧ U2 P ops K f (j :: L) (HS w0 S H) (listed.setIfInBounds i true) a w)))
    (h1b : A n env w0 S H (Step P ops o2 (fun a w => HS w0 S H w ∧ U2 P ops K f (j :: L) (HS w0 S H) (listed.setIfInBounds i2 true) a w)))
    (h2 : A n env w0 S H (Step P ops o' (fun a w => ∃ S' : World → Prop, (∀ w w', S' w → Fr [] w w' → S' w') ∧ S' w ∧ U2 P ops K f L S' (listed.setIfInBounds j true) a w))) : A n env w0 S H (U2 P ops K (f + 1) (j :: L) (HS w0 S H) listed) := by
  intro a w r s
  simp only [Prod.mk.injEq, Bool.or_eq_false_iff] at hr
  refine ⟨fun h0 => (by rw [hr.1] at h0; cases h0), fun m hm w' hf => ?_⟩
  have hij := Nat.ne_of_beq_eq_false hr.2.1
  have hij2 := Nat.ne_of_beq_eq_false hr.2.2
  rw [hr.1] at hm
  simp only [List.mem_cons, List.not_mem_nil, or_false] at hm
  rcases hm with rfl | rfl | rfl
  · have h := h1 a w' r (s.kept hf)
    unfold Step at h
    unfold wpOp
    simp only [hi]
    split
    · rename_i hw; rw [if_pos hw] at h; exact .inl (Oper.wp_imp h fun _ _ h => .inr ⟨by simpa using fun e => hij e.symm, h⟩)
    · rename_i hw; rw [if_neg hw] at h; exact .inr ⟨by simpa using fun e => hij e.symm, h⟩
  · have h := h1b a w' r (s.kept hf)
    unfold Step at h
    unfold wpOp
    simp only [hi2]
    split
    · rename_i hw; rw [if_pos hw] at h; exact .inl (Oper.wp_imp h fun _ _ h => .inr ⟨by simpa using fun e => hij2 e.symm, h⟩)
    · rename_i hw; rw [if_neg hw] at h; exact .inr ⟨by simpa using fun e => hij2 e.symm, h⟩
  · have h := h2 a w' r (s.kept hf)
    unfold Step at h
    unfold wpOp
    simp only [hj]
    split
    · rename_i hw; rw [if_pos hw] at h; exact .inl (Oper.wp_imp h fun _ _ h => .inl ⟨rfl, h⟩)
    · rename_i hw; rw [if_neg hw] at h; exact .inl ⟨rfl, h⟩
end
end Go.Proofs.Ytinnnoimmioaiaa.V
namespace Go.Proofs.Ytinnnoimmioaiaa.V
set_option linter.unusedVariables false
set_option linter.unusedSimpArgs false
open Go
def bornAt (es : Array MapEntry) (i : Nat) : Nat := ((es[i]?).map (·.born)).getD 0
/-- the walk over a map's entries: which have come -/
def iterI (r b : Nat) (es : Array MapEntry) (clock : Nat) (seen : List Nat) : Item where
  foot := [r]
  holds w := w.heap[r]? = some (.mapIter (some b) clock (seen.map (bornAt es)).toArray clock)
  loc w w' h hw := by rw [h r (by simp)]; exact hw
  here w hw c hc := by simp at hc; subst hc; exact (Array.getElem?_eq_some_iff.1 hw).1
section
variable {P : Program} {n : Nat} {env : Env} {w0 : World} {S : List Nat} {H : List Item} {ops : Array Oper} {o : Oper} {K : Act → World → Prop} {κ β : Type}
theorem A.rangeM (d : Nat) {x : Operand} {t kt et : TypeId} {b : Nat} {es : Array MapEntry} {clock : Nat} (hok : headOk ops n env o (some d) = true) (ho : o.op = .range t x) (hx : ev env x = some (.map (some b)))
    (ht : P.underlying t = some (.map kt et)) (hb : ∀ w, HS w0 S H w → w.heap[b]? = some (.map es clock)) (H' : Nat → List Item) (hH : ∀ r, H ++ [iterI r b es clock []] = H' r)
    (h : ∀ r, V.A n ((d, .pointer (some ⟨r, 0, none⟩)) :: env) w0 S (H' r) K) : V.A n env w0 S H (Step P ops o K) := by
  intro a w r s
  obtain ⟨h1', h2, h3, h4⟩ := headOk_spec hok
  unfold Step
  rw [if_pos (wanted_of r h1')]
  have hbw := hb w s
  have hrun : (execOp a.eval o).run P w = .ok (.value (.pointer (some ⟨w.heap.size, 0, none⟩))) (w.alloc (.mapIter (some b) clock #[] clock)) := by
    simp [execOp, ho, r.ev hx, Instr.range, run_underlying ht, Go.MapKept.run_getObj_map hbw, newObj, Sem.run, World.alloc_eq]
  unfold Oper.wp
  rw [hrun]
  simp only [Oper.upon, h2]
  refine h w.heap.size _ _ (r.put (h3 d rfl)) ?_
  rw [← hH]
  exact s.add (it := iterI w.heap.size b es clock []) (Fr.alloc _ _ _) (by have := heap_alloc_new w (.mapIter (some b) clock #[] clock); simpa [iterI] using this) (by simp [iterI]) (by simp [iterI])
theorem ents_at {enck : κ → Value} {encv : β → Value} : ∀ {es : List MapEntry} {kv : List (κ × β)} {j : Nat} {e : MapEntry}, Ents enck encv es kv → es[j]? = some e → ∃ p, kv[j]? = some p ∧ e.key = enck p.1 ∧ e.val = encv p.2
  | [], _, j, e, _, h => by simp at h
  | e' :: es, p :: kv, 0, e, hE, h => by simp at h; subst h; exact ⟨p, rfl, hE.1⟩
  | e' :: es, p :: kv, j + 1, e, hE, h => by simp at h; obtain ⟨q, hq, hh⟩ := ents_at hE.2 h; exact ⟨q, by simpa using hq, hh⟩
  | _ :: _, [], _, _, hE, _ => hE.elim
theorem born_inj {es : Array MapEntry} (hnd : (es.toList.map (·.born)).Nodup) {i j : Nat} (hi : i < es.size) (hj : j < es.size) (h : bornAt es i = bornAt es j) : i = j := by
  unfold bornAt at h
  rw [Array.getElem?_eq_getElem hi, Array.getElem?_eq_getElem hj] at h
  simp only [Option.map_some, Option.getD_some] at h
  have hl : i < (es.toList.map (·.born)).length := by simpa using hi
  have hl2 : j < (es.toList.map (·.born)).length := by simpa using hj
  rcases Nat.lt_trichotomy i j with g | g | g
  · exact absurd (by simpa using h) (List.pairwise_iff_getElem.1 hnd i j hl hl2 g)
  · exact g
  · exact absurd (by simpa using h.symm) (List.pairwise_iff_getElem.1 hnd j i hl2 hl g)
theorem A.nextM (i d : Nat) {x : Operand} {r b : Nat} {es : Array MapEntry} {clock : Nat} {seen : List Nat} {enck : κ → Value} {encv : β → Value} {kv : List (κ × β)} (hok : headOk ops n env o (some d) = true) (ho : o.op = .next x false)
    (hx : ev env x = some (.pointer (some ⟨r, 0, none⟩))) (hi : H[i]? = some (iterI r b es clock seen)) (hb : ∀ w, HS w0 S H w → w.heap[b]? = some (.map es clock)) (hE : Ents enck encv es.toList kv) (hborn : ∀ e ∈ es.toList, e.born < clock) (hnd : (es.toList.map (·.born)).Nodup)
    (hs : ∀ j ∈ seen, j < kv.length) (H' : Nat → List Item) (hH : ∀ j, H.set i (iterI r b es clock (seen ++ [j])) = H' j)
    (h1 : (∀ j, j < kv.length → j ∈ seen) → V.A n ((d, .tuple #[.bool false]) :: env) w0 S H K)
    (h2 : ∀ j k v, kv[j]? = some (k, v) → j ∉ seen → V.A n ((d, .tuple #[.bool true, enck k, encv v]) :: env) w0 S (H' j) K) : V.A n env w0 S H (Step P ops o K) := by
  intro a w ra s
  obtain ⟨h1', h2', h3, h4⟩ := headOk_spec hok
  unfold Step
  rw [if_pos (wanted_of ra h1')]
  have hbw := hb w s
  have hr : w.heap[r]? = some (.mapIter (some b) clock (seen.map (bornAt es)).toArray clock) := s.mem hi
  have hlen : es.toList.length = kv.length := hE.len
  have hex : (execOp a.eval o) = (Instr.next (.pointer (some ⟨r, 0, none⟩)) false o.type).bind fun v => pure (Next.value v) := by
    simp [execOp, ho, ra.ev hx]; rfl
  unfold Oper.wp
  rcases run_next_at (P := P) w o.type r b clock clock (seen.map (bornAt es)).toArray es clock hr hbw hborn (Nat.le_refl _) with ⟨h0, hrun⟩ | ⟨e, he, w1, hw1, hrun⟩
  · have hrun' : (execOp a.eval o).run P w = .ok (.value (.tuple #[.bool false])) w := by
      rw [hex]; show ((Instr.next _ false o.type) >>= fun v => pure (Next.value v)).run P w = _
      rw [Sem.run_bind, hrun]; rfl
    rw [hrun']
    simp only [Oper.upon, h2']
    refine h1 (fun j hj => ?_) _ w (ra.put (h3 d rfl)) s
    have hje : j < es.size := by simp at hlen; omega
    have hz : leftOf es (seen.map (bornAt es)).toArray = #[] := Array.eq_empty_of_size_eq_zero h0
    unfold leftOf at hz
    rw [Array.filter_eq_empty_iff] at hz
    have := hz es[j] (by simp)
    simp at this
    obtain ⟨q, hq, e2⟩ := this
    have hqe : q < es.size := by have := hs q hq; simp at hlen; omega
    have : q = j := born_inj hnd hqe hje (by rw [e2]; unfold bornAt; rw [Array.getElem?_eq_getElem hje]; rfl)
    rw [← this]; exact hq
  · have hrun' : (execOp a.eval o).run P w = .ok (.value (.tuple #[.bool true, e.key, e.val])) (Go.ChangeMaps.setBlock w1 r (.mapIter (some b) clock ((seen.map (bornAt es)).toArray.push e.born) clock)) := by
      rw [hex]; show ((Instr.next _ false o.type) >>= fun v => pure (Next.value v)).run P w = _
      rw [Sem.run_bind, hrun]; rfl
    rw [hrun']
    simp only [Oper.upon, h2']
    unfold leftOf at he
    simp at he
    obtain ⟨he1, he2⟩ := he
    obtain ⟨j, hj, hje⟩ := Array.mem_iff_getElem.1 he1
    have hjl : es.toList[j]? = some e := by simp [hj, hje]
    obtain ⟨p, hp, hk, hv⟩ := ents_at hE hjl
    have hbj : bornAt es j = e.born := by unfold bornAt; rw [Array.getElem?_eq_getElem hj, hje]; rfl
    have hns : j ∉ seen := fun hin => he2 j hin hbj
    rw [hk, hv]
    refine h2 j p.1 p.2 hp hns _ _ (ra.put (h3 d rfl)) ?_
    rw [← hH]
    have hlt : r < w.heap.size := (Array.getElem?_eq_some_iff.1 hr).1
    have hh : w1.heap = w.heap ∧ w1.os = w.os ∧ w1.tape = w.tape ∧ w1.output = w.output := by rcases hw1 with rfl | rfl <;> exact ⟨rfl, rfl, rfl, rfl⟩
    refine s.turn (jt := iterI r b es clock (seen ++ [j])) hi ⟨?_, ?_, ?_, ?_, ?_⟩ ?_ (by simp [iterI]) (by simp [iterI])
    · exact hh.2.1
    · exact hh.2.2.1
    · exact hh.2.2.2
    · simp [Go.ChangeMaps.setBlock, hh.1]
    · intro q _ hq
      have : r ≠ q := fun e => hq (by rw [← e]; simp [iterI])
      simp [Go.ChangeMaps.setBlock, hh.1, Array.getElem?_setIfInBounds, this]
    · show (Go.ChangeMaps.setBlock w1 r _).heap[r]? = some _
      simp only [Go.ChangeMaps.setBlock, hh.1]
      rw [Array.getElem?_setIfInBounds, if_pos rfl, if_pos hlt]
      congr 2
      rw [← hbj]; simp
/-- the round's key and value, read behind the step -/
theorem qt_entry {x : Operand} {r b : Nat} {es : Array MapEntry} {clock : Nat} {seen : List Nat} {enck : κ → Value} {encv : β → Value} {kv : List (κ × β)} {k : κ} {v : β} (i j : Nat) (ho : o.op = .entry x) (hx : ev env x = some (.pointer (some ⟨r, 0, none⟩)))
    (hi : H[i]? = some (iterI r b es clock (seen ++ [j]))) (hb : ∀ w, HS w0 S H w → w.heap[b]? = some (.map es clock)) (hE : Ents enck encv es.toList kv) (hnd : (es.toList.map (·.born)).Nodup) (hj : kv[j]? = some (k, v)) : Qt P n env w0 S H o (.tuple #[enck k, encv v]) :=
  qt_same fun a w ra s => by
    have hbw := hb w s
    have hr : w.heap[r]? = some (.mapIter (some b) clock ((seen ++ [j]).map (bornAt es)).toArray clock) := s.mem hi
    have hlen : es.toList.length = kv.length := hE.len
    have hjl : j < es.size := by have := (List.getElem?_eq_some_iff.1 hj).1; simp at hlen; omega
    obtain ⟨p, hp, hk, hv⟩ := ents_at (j := j) (e := es[j]) hE (by simp [hjl])
    rw [hj] at hp; cases hp
    have e1 : ((seen ++ [j]).map (bornAt es)).toArray = (seen.map (bornAt es)).toArray.push (es[j]).born := by
      simp; unfold bornAt; rw [Array.getElem?_eq_getElem hjl]; rfl
    rw [e1] at hr
    have := run_entry_at (P := P) w r b clock (seen.map (bornAt es)).toArray es clock es[j] hr hbw (by simp) hnd
    simp [execOp, ho, ra.ev hx, this, hk, hv]
theorem old_heap {b : Nat} {x : Obj} {w : World} (s : HS w0 S H w) (h : w0.heap[b]? = some x) (hn : b ∉ S) : w.heap[b]? = some x := by
  rw [s.fr.block b (Array.getElem?_eq_some_iff.1 h).1 hn]; exact h
end
end Go.Proofs.Ytinnnoimmioaiaa.V
namespace Go.Proofs.Ytinnnoimmioaiaa.V
set_option linter.unusedVariables false
set_option linter.unusedSimpArgs false
open Go Go.Sort
variable {enc : Int → List Value} {t : TypeId}
theorem flat_ints (he : ∀ x, enc x = [Value.int .i64 x]) : ∀ l : List Int, flat enc l = l.map (Value.int .i64)
  | [] => rfl
  | y :: l => by have := flat_ints he l; simp only [flat, List.flatMap_cons, he, List.map_cons] at this ⊢; rw [this]; rfl
theorem sl_Holds {g off c : Nat} {l : List Int} {w : World} (he : ∀ x, enc x = [Value.int .i64 x]) (h : (sl (some ⟨g, off, none⟩) l.length c t 1 (flat enc l)).holds w) : Holds (Value.int .i64) w g off l.toArray ∧ g < w.heap.size := by
  obtain ⟨h1, h2, h3, ⟨h4, _⟩ | ⟨g', off', cur, e, hg, hsz, hcs⟩⟩ := h
  · cases h4
  cases e
  refine ⟨fun j hj => ?_, (Array.getElem?_eq_some_iff.1 hg).1⟩
  have hj' : j < l.length := by simpa using hj
  refine ⟨?_, by simp [World.frozen?, hg]⟩
  have e1 : ((cur.toList.drop off).take (l.length * 1))[j]? = (l.map (Value.int .i64))[j]? := by rw [hcs, flat_ints he]
  rw [Nat.mul_one, List.getElem?_take_of_lt hj', List.getElem?_drop] at e1
  simp only [World.cell?, hg, Option.isSome_none, Bool.false_eq_true, if_false]
  rw [← Array.getElem?_toList, e1]
  simp [hj']
theorem sl_sorted {g off c k : Nat} {l ts : List Int} {os : Array Obj} {w : World} (he : ∀ x, enc x = [Value.int .i64 x]) (hl : ts.length = l.length) (h : (sl (some ⟨g, off, none⟩) l.length c t 1 (flat enc l)).holds w) :
    Turn [sl (some ⟨g, off, none⟩) l.length c t 1 (flat enc l)] [sl (some ⟨g, off, none⟩) ts.length c t 1 (flat enc ts)] w (grow (putRow (Value.int .i64) (Sort.ahead w k) g off ts.toArray) os) := by
  obtain ⟨h1, h2, h3, ⟨h4, _⟩ | ⟨g', off', cur, e, hg, hsz, hcs⟩⟩ := h
  · cases h4
  cases e
  have hgs : g < w.heap.size := (Array.getElem?_eq_some_iff.1 hg).1
  have hgn : (grow (putRow (Value.int .i64) (Sort.ahead w k) g off ts.toArray) os).heap[g]? = some (.cells (putCells (Value.int .i64) off ts.toArray cur) t (0, 0)) := by
    rw [heap_grow_old _ _ (by simpa [putRow, mapBlock, Sort.ahead] using hgs)]
    simp [putRow, mapBlock, Sort.ahead, Array.getElem?_modify, hg, onCells]
  refine ⟨⟨rfl, rfl, rfl, by simp [grow, putRow, mapBlock, Sort.ahead], fun q hq hS => ?_⟩, ?_, by simp [feet, sl, slFoot], by simp [feet, sl, slFoot]⟩
  · have hqg : g ≠ q := fun e => hS (by rw [← e]; simp [feet, sl, slFoot])
    rw [heap_grow_old _ _ (by simpa [putRow, mapBlock, Sort.ahead] using hq)]
    simp [putRow, mapBlock, Sort.ahead, Array.getElem?_modify, hqg]
  · intro it hi; simp only [List.mem_singleton] at hi; subst hi
    refine ⟨by rw [flat_ints he]; simp, by omega, h3, .inr ⟨g, off, _, rfl, hgn, by simpa [putCells] using hsz, ?_⟩⟩
    rw [flat_ints he, Nat.mul_one]
    apply List.ext_getElem?
    intro j
    by_cases hj : j < ts.length
    · rw [List.getElem?_take_of_lt hj, List.getElem?_drop, Array.getElem?_toList]
      have : off + j < cur.size := by omega
      simp [putCells, this, hj]
    · rw [List.getElem?_eq_none (by simp; omega), List.getElem?_eq_none (by simp; omega)]
end Go.Proofs.Ytinnnoimmioaiaa.V
namespace Go.Proofs.Ytinnnoimmioaiaa.V
open Go
section
variable {P : Program} {n : Nat} {env : Env} {w0 : World} {S : List Nat} {H : List Item} {ops : Array Oper} {o : Oper} {K : Act → World → Prop} {f : Nat} {L : List Nat} {listed : Array Bool}
theorem A.fork2r (i j : Nat) {o' : Oper} (hi : ops[i]? = some o) (hj : ops[j]? = some o') (hr : (Region.ready .any ops listed, Nat.beq i j) = ([j, i], false))
    (h1 : A n env w0 S H (Step P ops o (fun a w => HS w0 S H w ∧ U2 P ops K f (j :: L) (HS w0 S H) (listed.setIfInBounds i true) a w)))
    (h2 : A n env w0 S H (Step P ops o' (fun a w => ∃ S' : World → Prop, (∀ w w', S' w → Fr [] w w' → S' w') ∧ S' w ∧ U2 P ops K f L S' (listed.setIfInBounds j true) a w))) : A n env w0 S H (U2 P ops K (f + 1) (j :: L) (HS w0 S H) listed) := by
  intro a w r s
  simp only [Prod.mk.injEq] at hr
  refine ⟨fun h0 => (by rw [hr.1] at h0; cases h0), fun m hm w' hf => ?_⟩
  have hij := Nat.ne_of_beq_eq_false hr.2
  rw [hr.1] at hm
  simp only [List.mem_cons, List.not_mem_nil, or_false] at hm
  rcases hm with rfl | rfl
  · have h := h2 a w' r (s.kept hf)
    unfold Step at h
    unfold wpOp
    simp only [hj]
    split
    · rename_i hw; rw [if_pos hw] at h; exact .inl (Oper.wp_imp h fun _ _ h => .inl ⟨rfl, h⟩)
    · rename_i hw; rw [if_neg hw] at h; exact .inl ⟨rfl, h⟩
  · have h := h1 a w' r (s.kept hf)
    unfold Step at h
    unfold wpOp
    simp only [hi]
    split
    · rename_i hw; rw [if_pos hw] at h; exact .inl (Oper.wp_imp h fun _ _ h => .inr ⟨by simpa using fun e => hij e.symm, h⟩)
    · rename_i hw; rw [if_neg hw] at h; exact .inr ⟨by simpa using fun e => hij e.symm, h⟩
end
end Go.Proofs.Ytinnnoimmioaiaa.V
namespace Go.Proofs.Ytinnnoimmioaiaa.V
open Go
theorem list_put {L vs : List Value} {m p sz : Nat} (hp : p + sz ≤ m) (hL : m ≤ L.length) (hv : vs.length = sz) : (L.take p ++ vs ++ L.drop (p + sz)).take m = (L.take m).take p ++ vs ++ (L.take m).drop (p + sz) := by
  have hA : (L.take p ++ vs).length = p + sz := by simp; omega
  rw [List.take_append, List.take_of_length_le (by omega), hA, List.take_take, Nat.min_eq_left (by omega), List.drop_take]
section
variable {P : Program} {n : Nat} {env : Env} {w0 : World} {S : List Nat} {H : List Item} {ops : Array Oper} {o : Oper} {K : Act → World → Prop}
theorem A.storeSl {α : Type} (i k : Nat) {t ty : TypeId} {x y : Operand} {A : Option Addr} {c sz : Nat} {u : Value} {enc : α → List Value} {xs : List α} (v : α) (H' : List Item) (hok : headOk ops n env o none = true) (ho : o.op = .store t x y)
    (hx : ev env x = some (.pointer (some ((at0 A).add (k * sz))))) (hy : ev env y = some u) (hu : u.cells = (enc v).toArray) (hsz : (P.info? t).map (·.size) = some sz) (h1 : (enc v).all Value.oneCell' = true) (he : ∀ x, (enc x).length = sz)
    (hz : 0 < sz) (hi : H[i]? = some (sl A xs.length c ty sz (flat enc xs))) (hk : k < xs.length) (hH : H.set i (sl A (xs.set k v).length c ty sz (flat enc (xs.set k v))) = H') (h : V.A n env w0 S H' K) : V.A n env w0 S H (Step P ops o K) := by
  intro a w r s
  obtain ⟨h1', h2, h3, h4⟩ := headOk_spec hok
  unfold Step
  rw [if_pos (wanted_of r h1')]
  have hs : slHolds A xs.length c ty sz (flat enc xs) w := s.mem hi
  obtain ⟨q1, q2, q3, ⟨rfl, q4⟩ | ⟨g, off, cur, rfl, hg, hle, htake⟩⟩ := hs
  · omega
  have hmul : (k + 1) * sz ≤ xs.length * sz := Nat.mul_le_mul_right sz hk
  have hmul2 : xs.length * sz ≤ c * sz := Nat.mul_le_mul_right sz q2
  rw [Nat.add_mul, Nat.one_mul] at hmul
  have ha : (at0 (some (⟨g, off, none⟩ : Addr))).add (k * sz) = ⟨g, off + k * sz, none⟩ := by simp only [at0, Option.getD_some]; exact add_lit' ..
  rw [ha] at hx
  have hh : w.heap[g]? = some (.cells cur.toList.toArray ty (0, 0)) := by rw [hg]
  have hve : (enc v).length = sz := he v
  have hst := run_storeCells_at P g (off + k * sz) ty (enc v) 0 cur.toList.toArray w hh (by simp; omega) (fun v hv => List.all_eq_true.1 h1 v hv)
  simp only [Nat.add_zero] at hst
  have hlen : u.cells.size = (enc v).length := by rw [hu]; simp
  simp only [Option.map_eq_some_iff] at hsz
  obtain ⟨inf, hinf, hsz⟩ := hsz
  have hrun : (execOp a.eval o).run P w = .ok .skip (w.setRow g (cur.toList.take (off + k * sz) ++ enc v ++ cur.toList.drop (off + k * sz + (enc v).length)).toArray) := by
    simp only [execOp, ho, Instr.storeAt, r.ev hx, r.ev hy, Instr.sureAddr, storeVar, sizeOf, typeInfo, Sem.run_bind, run_program, Sem.run_pure, Result.andThen_ok, hinf, hsz, hlen, hve]
    simp [hu] at hst ⊢
    rw [hst]; simp [hve]
  unfold Oper.wp
  rw [hrun]
  simp only [Oper.upon, h2]
  refine h _ _ r ?_
  rw [← hH]
  refine s.turn hi (fr_setRow _ _ _) ?_ (by simp [sl, slFoot]) (fun b hb => .inl hb)
  refine ⟨by rw [flat_len he], by rw [List.length_set]; exact q2, q3, .inr ⟨g, off, _, rfl, setRow_at w g _ _ ty hh, by simp; omega, ?_⟩⟩
  have hL : xs.length * sz ≤ (cur.toList.drop off).length := by simp; omega
  have e1 : (cur.toList.take (off + k * sz) ++ enc v ++ cur.toList.drop (off + k * sz + (enc v).length)).drop off = (cur.toList.drop off).take (k * sz) ++ enc v ++ (cur.toList.drop off).drop (k * sz + sz) := by
    rw [List.append_assoc, List.drop_append, List.drop_take, List.length_take, Nat.min_eq_left (by simp; omega), show off - (off + k * sz) = 0 by omega, List.drop_zero, show off + k * sz - off = k * sz by omega, List.drop_drop, hve, ← List.append_assoc, show off + (k * sz + sz) = off + k * sz + sz by omega]
  show ((List.toArray _).toList.drop off).take ((xs.set k v).length * sz) = _
  rw [List.length_set]
  simp only [List.toList_toArray]
  rw [e1, list_put hmul hL hve, htake, ← he v, ← flat_set (fun x => he x) xs k v hk, he v]
end
end Go.Proofs.Ytinnnoimmioaiaa.V
namespace Go.Proofs.Ytinnnoimmioaiaa.V
open Go
section
variable {P : Program} {n : Nat} {env : Env} {w0 : World} {S : List Nat} {H : List Item} {o : Oper}
theorem qt_shl {x y : Operand} {t ty : TypeId} {k k' : IntKind} {e : Int} {m : Nat} (ho : o.op = .binOp .shl t x y ty) (hx : ev env x = some (.int k e)) (hy : ev env y = some (.int k' (m : Int))) (hm : m ≤ k.bits) : Qt P n env w0 S H o (.int k (k.wrap (e * 2 ^ m))) :=
  qt_same fun a w r _ => by
    have h1 : ¬ ((m : Int) < 0) := by omega
    have h2 : min m k.bits = m := Nat.min_eq_left hm
    simp [execOp, ho, r.ev hx, r.ev hy, eqGuard, binOp, Op.shift, h1, h2]
end
end Go.Proofs.Ytinnnoimmioaiaa.V
namespace Go.Proofs.Ytinnnoimmioaiaa.V
set_option linter.unusedVariables false
set_option linter.unusedSimpArgs false
open Go Go.Sort
variable {enc : Int → List Value} {t : TypeId} {k : IntKind}
theorem flat_nums (he : ∀ x, enc x = [Value.int k x]) : ∀ l : List Int, flat enc l = l.map (Value.int k)
  | [] => rfl
  | y :: l => by have := flat_nums he l; simp only [flat, List.flatMap_cons, he, List.map_cons] at this ⊢; rw [this]; rfl
theorem sl_HoldsK {g off c : Nat} {l : List Int} {w : World} (he : ∀ x, enc x = [Value.int k x]) (h : (sl (some ⟨g, off, none⟩) l.length c t 1 (flat enc l)).holds w) : Holds (Value.int k) w g off l.toArray ∧ g < w.heap.size := by
  obtain ⟨h1, h2, h3, ⟨h4, _⟩ | ⟨g', off', cur, e, hg, hsz, hcs⟩⟩ := h
  · cases h4
  cases e
  refine ⟨fun j hj => ?_, (Array.getElem?_eq_some_iff.1 hg).1⟩
  have hj' : j < l.length := by simpa using hj
  refine ⟨?_, by simp [World.frozen?, hg]⟩
  have e1 : ((cur.toList.drop off).take (l.length * 1))[j]? = (l.map (Value.int k))[j]? := by rw [hcs, flat_nums he]
  rw [Nat.mul_one, List.getElem?_take_of_lt hj', List.getElem?_drop] at e1
  simp only [World.cell?, hg, Option.isSome_none, Bool.false_eq_true, if_false]
  rw [← Array.getElem?_toList, e1]
  simp [hj']
/-- the row is put anew, and the slice cut -/
theorem sl_row {g off c q : Nat} {l ts rest : List Int} {w : World} (he : ∀ x, enc x = [Value.int k x]) (hl : ts.length + rest.length = l.length) (h : (sl (some ⟨g, off, none⟩) l.length c t 1 (flat enc l)).holds w) :
    Turn [sl (some ⟨g, off, none⟩) l.length c t 1 (flat enc l)] [sl (some ⟨g, off, none⟩) ts.length c t 1 (flat enc ts)] w (putRow (Value.int k) (Sort.ahead w q) g off (ts ++ rest).toArray) := by
  obtain ⟨h1, h2, h3, ⟨h4, _⟩ | ⟨g', off', cur, e, hg, hsz, hcs⟩⟩ := h
  · cases h4
  cases e
  have hgs : g < w.heap.size := (Array.getElem?_eq_some_iff.1 hg).1
  have hgn : (putRow (Value.int k) (Sort.ahead w q) g off (ts ++ rest).toArray).heap[g]? = some (.cells (putCells (Value.int k) off (ts ++ rest).toArray cur) t (0, 0)) := by
    simp [putRow, mapBlock, Sort.ahead, Array.getElem?_modify, hg, onCells]
  refine ⟨⟨rfl, rfl, rfl, by simp [putRow, mapBlock, Sort.ahead], fun p hp hS => ?_⟩, ?_, by simp [feet, sl, slFoot], by simp [feet, sl, slFoot]⟩
  · have hqg : g ≠ p := fun e => hS (by rw [← e]; simp [feet, sl, slFoot])
    simp [putRow, mapBlock, Sort.ahead, Array.getElem?_modify, hqg]
  · intro it hi; simp only [List.mem_singleton] at hi; subst hi
    refine ⟨by rw [flat_nums he]; simp, by omega, h3, .inr ⟨g, off, _, rfl, hgn, by simpa [putCells] using hsz, ?_⟩⟩
    rw [flat_nums he, Nat.mul_one]
    apply List.ext_getElem?
    intro j
    by_cases hj : j < ts.length
    · rw [List.getElem?_take_of_lt hj, List.getElem?_drop, Array.getElem?_toList]
      have : off + j < cur.size := by omega
      have hj2 : j < ts.length + rest.length := by omega
      simp [putCells, this, hj, hj2, List.getElem_append_left]
    · rw [List.getElem?_eq_none (by simp; omega), List.getElem?_eq_none (by simp; omega)]
end Go.Proofs.Ytinnnoimmioaiaa.V
namespace Go.Proofs.Ytinnnoimmioaiaa.V
open Go
variable {H : Type} {enc : TypeId × Value → H} {P : Program} {w : World} {base : Nat} {spare : Nat → Bool} {held : Bool}
theorem slice_cap {t e : TypeId} {v : Value} {dd : DataW H} {ps : List MemPlace} (ht : P.underlying t = some (.slice e)) {A0 : Option Addr} {len cap : Nat} (hv : v = .slice A0 len cap)
    (h : DataW.Trod enc P w base spare held t v dd ps) : len ≤ cap := by
  subst hv
  obtain ⟨fu, hf⟩ := h
  rcases Go.Deep.open_slice ht hf with ⟨h0, -⟩ | ⟨a, len', cap', m, n, D, Pl, h0, hb, h1, h2, h3, -, hx⟩
  · simp [Value.cells] at h0
    obtain ⟨rfl, rfl, rfl⟩ := h0
    omega
  · simp [Value.cells] at h0
    obtain ⟨rfl, rfl, rfl⟩ := h0
    exact h1
end Go.Proofs.Ytinnnoimmioaiaa.V
namespace Go.Proofs.Ytinnnoimmioaiaa.V
open Go
section
variable {P : Program} {Q : Exit → Act → World → Prop} {n : Nat} {env : Env} {w0 : World} {S : List Nat} {H : List V.Item}
/-- at the head of a loop's round -/
def LoopHead (P : Program) (c : Code) (Q : Exit → Act → World → Prop) : Act → World → Prop := fun a w => ∀ b k cs, ∃ e a' w', Q e a' w' ∧ Arrives P (lone (b.at a (.code c :: .inLoop c :: k)) cs w) b k cs e a' w'
theorem head_round {c : Code} {a : Act} {w : World} (h : c.wp P (Exit.then (LoopHead P c Q) Q) a w) : LoopHead P c Q a w := by
  intro b k cs
  obtain ⟨e, a₁, w₁, hq, harr⟩ := h b (.inLoop c :: k) cs
  cases e with
  | normal =>
    obtain ⟨e₂, a₂, w₂, hq₂, harr₂⟩ := hq b k cs
    exact ⟨e₂, a₂, w₂, hq₂, .of_steps (Steps.trans harr (.one step_inLoop)) harr₂⟩
  | exit id => exact ⟨_, a₁, w₁, hq, .pass (x := .inLoop c) rfl (fun _ _ => .inl (by simp)) harr⟩
  | goto l => exact ⟨_, a₁, w₁, hq, .pass (x := .inLoop c) rfl (fun _ _ => .inl (by simp)) harr⟩
  | ret => exact ⟨_, a₁, w₁, hq, .pass (x := .inLoop c) rfl (fun _ _ => .inl (by simp)) harr⟩
  | panic ch => exact ⟨_, a₁, w₁, hq, .pass (x := .inLoop c) rfl (fun _ _ => .inl (by simp)) harr⟩
  | outgrown => exact ⟨_, a₁, w₁, hq, .pass (x := .inLoop c) rfl (fun _ _ => .inl (by simp)) harr⟩
theorem loop_head {c : Code} {a : Act} {w : World} (h : LoopHead P c Q a w) : (Code.loop c).wp P Q a w := by
  intro b k cs
  obtain ⟨e, a', w', hq, harr⟩ := h b k cs
  exact ⟨e, a', w', hq, .of_steps (.one step_loop) harr⟩
/-- the first round apart -/
theorem A.peel {c : Code} (h : A n env w0 S H (c.wp P (Exit.then (LoopHead P c Q) Q))) : A n env w0 S H ((Code.loop c).wp P Q) := fun a w r s => loop_head (head_round (h a w r s))
/-- the rounds behind the first one -/
theorem A.loopH {σ : Type} {c : Code} (envf : σ → Env) (Hf : σ → List V.Item) (φ : σ → Prop) (μ : σ → Nat) (x0 : σ) (h0 : φ x0)
    (hstart : A n env w0 S H (fun a w => Rep n (envf x0) a ∧ HS w0 S (Hf x0) w))
    (round : ∀ x, φ x → A n (envf x) w0 S (Hf x) (c.wp P (Exit.then (fun a w => ∃ y, φ y ∧ μ y < μ x ∧ Rep n (envf y) a ∧ HS w0 S (Hf y) w) Q))) :
    A n env w0 S H (LoopHead P c Q) := by
  have key : ∀ m x a w, μ x = m → φ x → Rep n (envf x) a → HS w0 S (Hf x) w → LoopHead P c Q a w := by
    intro m
    induction m using Nat.strongRecOn with
    | _ m ih =>
      intro x a w hm hx hr hs
      refine head_round (wp_mono (round x hx a w hr hs) fun e a w hq => ?_)
      cases e with
      | normal => obtain ⟨y, hy, hlt, hr1, hs1⟩ := hq; exact ih (μ y) (hm ▸ hlt) y a w rfl hy hr1 hs1
      | _ => exact hq
  intro a0 w00 r0 s0
  obtain ⟨hr, hs⟩ := hstart a0 w00 r0 s0
  exact key _ x0 a0 w00 rfl h0 hr hs
end
end Go.Proofs.Ytinnnoimmioaiaa.V
namespace Go.Proofs.Ytinnnoimmioaiaa.V
open Go
def memN (x : Nat) : List Nat → Bool
  | [] => false
  | y :: l => bif Nat.beq y x then true else memN x l
/-- the entries whose slots are not among these, each slot once -/
def dlg : List Nat → Env → Env
  | _, [] => []
  | ds, p :: l => bif memN p.1 ds then dlg ds l else p :: dlg (p.1 :: ds) l
def app {α : Type} : List α → List α → List α
  | [], r => r
  | x :: l, r => x :: app l r
theorem app_eq {α : Type} : ∀ l r : List α, app l r = l ++ r
  | [], _ => rfl
  | x :: l, r => by rw [app, app_eq l r]; rfl
/-- a state with these slots gone, and these entries new -/
def dl (ds : List Nat) (ad env : Env) : Env := app ad (dlg (app (ids ad) ds) env)
def setI : List (Nat × Item) → List Item → List Item
  | [], H => H
  | p :: l, H => setI l (H.set p.1 p.2)
/-- the things that are not at these places -/
def rst : List Nat → List Item → List Item
  | [], H => H
  | i :: is, H => rst is (H.eraseIdx i)
theorem pull_rst : ∀ {is : List Nat} {H a r : List Item}, pull is H = some (a, r) → r = rst is H
  | [], H, a, r, h => by simp [pull] at h; exact h.2.symm
  | i :: is, H, a, r, h => by
    simp only [pull] at h
    cases hi : H[i]? with
    | none => rw [hi] at h; cases h
    | some it =>
      rw [hi] at h; dsimp only at h
      cases hp : pull is (H.eraseIdx i) with
      | none => rw [hp] at h; cases h
      | some x =>
        obtain ⟨a', r'⟩ := x
        rw [hp] at h; simp at h
        obtain ⟨_, rfl⟩ := h
        exact pull_rst (is := is) hp
def lks (env : Env) (l : List Nat) : List (Option Value) := l.map (look env)
def vls (env : Env) : List (Option Value) := env.map fun p => some p.2
theorem sbk {env : Env} : ∀ {env' : Env}, lks env (ids env') = vls env' → V.sub env env'
  | [], _ => trivial
  | p :: l, h => by
    simp only [lks, ids, vls, List.map_cons, List.cons.injEq] at h
    exact ⟨h.1, sbk h.2⟩
def resT : List ResultVar → List Nat
  | .tmp t :: l => t :: resT l
  | _ => []
def resOk : List ResultVar → Bool
  | [] => true
  | .tmp _ :: l => resOk l
  | _ => false
theorem rvs_tmp {P : Program} {n : Nat} {env : Env} {w : World} {a : Act} (r : Rep n env a) : ∀ {l : List ResultVar} {vs : List Value}, resOk l = true → lks env (resT l) = vs.map some → RVs P w a l vs
  | [], [], _, _ => trivial
  | [], _ :: _, _, h => by simp [lks, resT] at h
  | .tmp t :: l, [], _, h => by simp [lks, resT] at h
  | .tmp t :: l, v :: vs, h0, h => by
    simp only [lks, resT, List.map_cons, List.cons.injEq] at h
    exact ⟨rv_tmp r h.1, rvs_tmp r (by simpa [resOk] using h0) h.2⟩
  | .cell _ _ :: _, _, h0, _ => by simp [resOk] at h0
theorem cgI {k : IntKind} {a b : Int} (h : a = b) : some (Value.int k a) = some (Value.int k b) := by rw [h]
theorem cgB {a b : Bool} (h : a = b) : some (Value.bool a) = some (Value.bool b) := by rw [h]
theorem cgL {α : Type} {A : Option Addr} {c : Nat} {a b : List α} (h : a = b) : some (Value.slice A a.length c) = some (Value.slice A b.length c) := by rw [h]
theorem cgN {A : Option Addr} {c a b : Nat} (h : a = b) : some (Value.slice A a c) = some (Value.slice A b c) := by rw [h]
section
variable {P : Program} {Q : Exit → Act → World → Prop} {n : Nat} {env : Env} {w0 : World} {S : List Nat} {H : List Item} {ops : Array Oper} {rest : List Oper} {o : Oper} {K : Act → World → Prop}
theorem A.g (hs : List Hn) (ds : List Nat) (ad : Env) (h : A n (dl ds ad env) w0 S H (Q .normal)) (hx : (nb hs, X P ops n (ids (dl ds ad env)) hs rest [] env [] H true) = (0, some ⟨dl ds ad env, H, [], T0⟩) := by kernel_rfl) : A n env w0 S H (wpList P ops Q rest) := A.goA hs _ [] _ hx trivial h
theorem A.gk (hs : List Hn) (ds : List Nat) (ad : Env) (l : List Nat) (C : Cx → Prop) (hc : C ⟨P, w0, S, H⟩) (h : A n (dl ds ad env) w0 S H (Q .normal)) (hx : (nb hs, X P ops n (ids (dl ds ad env)) hs rest [] env [] H true) = (0, some ⟨dl ds ad env, H, dup l, C⟩) := by kernel_rfl) : A n env w0 S H (wpList P ops Q rest) := A.goA hs _ l _ hx hc h
theorem A.gp (hs : List Hn) (ds : List Nat) (ad : Env) (h : A n (dl ds ad env) w0 S H (wpList P ops Q (rest.drop (nops hs)))) (hx : (nb hs, X P ops n (ids (dl ds ad env)) hs (rest.take (nops hs)) [] env [] H true) = (0, some ⟨dl ds ad env, H, [], T0⟩) := by kernel_rfl) : A n env w0 S H (wpList P ops Q rest) := A.goP hs _ [] _ hx trivial h
theorem A.gpk (hs : List Hn) (ds : List Nat) (ad : Env) (l : List Nat) (C : Cx → Prop) (hc : C ⟨P, w0, S, H⟩) (h : A n (dl ds ad env) w0 S H (wpList P ops Q (rest.drop (nops hs)))) (hx : (nb hs, X P ops n (ids (dl ds ad env)) hs (rest.take (nops hs)) [] env [] H true) = (0, some ⟨dl ds ad env, H, dup l, C⟩) := by kernel_rfl) : A n env w0 S H (wpList P ops Q rest) := A.goP hs _ l _ hx hc h
theorem A.gs (hs : List Hn) (ds : List Nat) (ad : Env) (is : List (Nat × Item)) (l : List Nat) (h : A n (dl ds ad env) w0 S (setI is H) (Q .normal)) (hx : (nb hs, X P ops n (ids (dl ds ad env)) hs rest [] env [] H true) = (0, some ⟨dl ds ad env, setI is H, dup l, T0⟩) := by kernel_rfl) : A n env w0 S H (wpList P ops Q rest) := A.goAS hs _ _ l _ hx trivial h
theorem A.gsk (hs : List Hn) (ds : List Nat) (ad : Env) (is : List (Nat × Item)) (l : List Nat) (C : Cx → Prop) (hc : C ⟨P, w0, S, H⟩) (h : A n (dl ds ad env) w0 S (setI is H) (Q .normal)) (hx : (nb hs, X P ops n (ids (dl ds ad env)) hs rest [] env [] H true) = (0, some ⟨dl ds ad env, setI is H, dup l, C⟩) := by kernel_rfl) : A n env w0 S H (wpList P ops Q rest) := A.goAS hs _ _ l _ hx hc h
theorem A.gps (hs : List Hn) (ds : List Nat) (ad : Env) (is : List (Nat × Item)) (l : List Nat) (C : Cx → Prop) (hc : C ⟨P, w0, S, H⟩) (h : A n (dl ds ad env) w0 S (setI is H) (wpList P ops Q (rest.drop (nops hs)))) (hx : (nb hs, X P ops n (ids (dl ds ad env)) hs (rest.take (nops hs)) [] env [] H true) = (0, some ⟨dl ds ad env, setI is H, dup l, C⟩) := by kernel_rfl) : A n env w0 S H (wpList P ops Q rest) := A.goPS hs _ _ l _ hx hc h
/-- one new block, nothing else is written -/
theorem A.g1 (hs : List Hn) (ds : List Nat) (ad : Nat → Env) (is : Nat → List (Nat × Item)) (N : Nat → Item) (l : Nat → List Nat) (h : ∀ b, A n (dl ds (ad b) env) w0 S (app (setI (is b) H) [N b]) (Q .normal)) (hx : ∀ b, (nb hs, X P ops n (ids (dl ds (ad b) env)) hs rest [b] env [] H true) = (1, some ⟨dl ds (ad b) env, app (setI (is b) H) [N b], dup (l b), T0⟩) := by intro _; kernel_rfl) (hi : ∀ b, ids (dl ds (ad b) env) = ids (dl ds (ad 0) env) := by intro _; kernel_rfl) : A n env w0 S H (wpList P ops Q rest) := A.goA1 hs (ids (dl ds (ad 0) env)) _ _ l (fun _ => T0) (fun b => by have := hx b; rw [hi b] at this; exact this) (fun _ => trivial) h
theorem A.dA {id : Nat} {l : List Oper} (hs : List Hn) (order : List Nat) (ds : List Nat) (ad : Env) (l2 : List Nat) (C : Cx → Prop) (hc : C ⟨P, w0, S, H⟩) (h : A n (dl ds ad env) w0 S H (Q .normal)) (hm : P.follows .mixedOrders = true := by kernel_rfl)
    (hx : (calm hs && drawOk l.toArray [] hs order (Array.replicate l.length false) && Nat.beq (opsAt l.toArray order).length order.length && Nat.beq order.length l.length && (Region.ready .any l.toArray (markAll (Array.replicate l.length false) order)).isEmpty,
      X P l.toArray n (ids (dl ds ad env)) hs (opsAt l.toArray order) [] env [] H true) = (true, some ⟨dl ds ad env, H, dup l2, C⟩) := by kernel_rfl) : A n env w0 S H ((Code.region id l.toArray true).wp P Q) := A.drawA hs order _ l2 C hm hx hc h
theorem A.dP {L : List Nat} {listed : Array Bool} {f' : Nat} (f : Nat) (hs : List Hn) (order : List Nat) (ds : List Nat) (ad : Env) (l : List Nat) (C : Cx → Prop) (hc : C ⟨P, w0, S, H⟩) (h : A n (dl ds ad env) w0 S H (U2 P ops K f L (HS w0 S H) (markAll listed order)))
    (hx : (calm hs && drawOk ops L hs order listed && Nat.beq (opsAt ops order).length order.length && Nat.beq f' (f + order.length), X P ops n (ids (dl ds ad env)) hs (opsAt ops order) [] env [] H true) = (true, some ⟨dl ds ad env, H, dup l, C⟩) := by kernel_rfl) : A n env w0 S H (U2 P ops K f' L (HS w0 S H) listed) := A.drawP f hs order _ l C hx hc h
theorem A.cn {c : Operand} {x y : Code} (E : Bool) (ht : E = true → A n env w0 S H (x.wp P Q)) (hf : E = false → A n env w0 S H (y.wp P Q)) (hc : ev env c = some (.bool E) := by kernel_rfl) : A n env w0 S H ((Code.cond c x y).wp P Q) := A.cond hc ht hf
theorem A.ct {c : Operand} {x y : Code} (ht : A n env w0 S H (x.wp P Q)) (hc : ev env c = some (.bool true) := by kernel_rfl) : A n env w0 S H ((Code.cond c x y).wp P Q) := A.cond_t hc ht
theorem A.cf {c : Operand} {x y : Code} (hf : A n env w0 S H (y.wp P Q)) (hc : ev env c = some (.bool false) := by kernel_rfl) : A n env w0 S H ((Code.cond c x y).wp P Q) := A.cond_f hc hf
theorem A.cT {σ : Type} (d : Option Nat) {f : FuncId} (args : List Value) (is : List Nat) {Is : List Item} (rv : σ → Value) (φ : σ → Prop) (Os : σ → List Item)
    (hc : ∀ w, HS w0 S H w → HS w (feet Is) Is w → Calls P f args.toArray w fun e w' => ∃ x, e = .returned (rv x) ∧ φ x ∧ Turn Is (Os x) w w')
    (h : ∀ x, φ x → A n (putE env d (rv x)) w0 S (app (Os x) (rst is H)) K)
    (hok : (headOk ops n env o d && callOk P f) = true := by kernel_rfl) (hx : callArgs env o = some (f, args) := by kernel_rfl) (hp : pull is H = some (Is, rst is H) := by kernel_rfl) : A n env w0 S H (Step P ops o K) :=
  A.callT d args is rv φ Os _ hok hx hp hc (fun _ => (app_eq _ _).symm) h
theorem A.hK (is : List Nat) {env' : Env} {G : List Item} (hs : lks env (ids env') = vls env' := by kernel_rfl) (hp : (match pull is H with | some x => some x.1 | none => none) = some G := by kernel_rfl) : A n env w0 S H (fun a w => Rep n env' a ∧ HS w0 S G w) := A.hereK is (sbk hs) hp
theorem A.sv {G : Act → World → Prop} (d : Nat) (v : Value) (hd : look env d = some v) (h : A n ((d, v) :: env) w0 S H G) : A n env w0 S H G := fun a w r s => h a w (r.cons hd r) s
theorem A.pK {fn : Func} {Is : List Item} {σ : Type} {w : World} {rv : σ → Value} {φ : σ → Prop} {Os : σ → List Item} (is : List Nat) (vs : List Value) (x : σ) (hx : outOf vs = rv x) (hφ : φ x) (ho : resOk fn.results.toList = true := by kernel_rfl) (hv : lks env (resT fn.results.toList) = vs.map some := by kernel_rfl) (hp : (match pull is H with | some x => some x.1 | none => none) = some (Os x) := by kernel_rfl) : V.A n env w (feet Is) H (bodyPost P fn (fun e w' => ∃ x, e = .returned (rv x) ∧ φ x ∧ Turn Is (Os x) w w') .ret) :=
  A.postK is vs (fun _ _ r _ => rvs_tmp r ho hv) x hx hφ hp
theorem A.pQ {fn : Func} {w : World} {v : Value} (vs : List Value) (hx : outOf vs = v) (ho : resOk fn.results.toList = true := by kernel_rfl) (hv : lks env (resT fn.results.toList) = vs.map some := by kernel_rfl) :
    V.A n env w [] H (bodyPost P fn (fun e w' => e = .returned v ∧ Fr [] w w') .ret) := A.postQ vs (fun _ _ r _ => rvs_tmp r ho hv) hx
theorem A.n1 (hs : List Hn) (ds : List Nat) (ad : Nat → Env) (N : Nat → Item) (h : ∀ b, A n (dl ds (ad b) env) w0 S (app H [N b]) (Q .normal)) (hx : ∀ b, (nb hs, X P ops n (ids (dl ds (ad b) env)) hs rest [b] env [] H true) = (1, some ⟨dl ds (ad b) env, app H [N b], [], T0⟩) := by intro _; kernel_rfl) (hi : ∀ b, ids (dl ds (ad b) env) = ids (dl ds (ad 0) env) := by intro _; kernel_rfl) : A n env w0 S H (wpList P ops Q rest) := A.g1 hs ds ad (fun _ => []) N (fun _ => []) h hx hi
theorem A.n2 (hs : List Hn) (ds : List Nat) (ad : Nat → Nat → Env) (N : Nat → Nat → List Item) (h : ∀ b c, A n (dl ds (ad b c) env) w0 S (app H (N b c)) (Q .normal)) (hx : ∀ b c, (nb hs, X P ops n (ids (dl ds (ad b c) env)) hs rest [b, c] env [] H true) = (2, some ⟨dl ds (ad b c) env, app H (N b c), [], T0⟩) := by intro _ _; kernel_rfl) (hi : ∀ b c, ids (dl ds (ad b c) env) = ids (dl ds (ad 0 0) env) := by intro _ _; kernel_rfl) : A n env w0 S H (wpList P ops Q rest) := A.goA2 hs (ids (dl ds (ad 0 0) env)) _ _ (fun _ _ => []) (fun _ _ => T0) (fun b c => by have := hx b c; rw [hi b c] at this; exact this) (fun _ _ => trivial) h
theorem A.sr {x : List Oper} {y : Code} {id : Nat} (h : A n env w0 S H (wpList P x.toArray (Exit.then (y.wp P Q) Q) x)) : A n env w0 S H ((Code.seq (Code.region id x.toArray false) y).wp P Q) := A.seq (A.region h)
theorem tr {x : List Oper} {id : Nat} {J : Exit → Act → World → Prop} (h : A n env w0 S H (wpList P x.toArray Q x)) : A n env w0 S H (Exit.then ((Code.region id x.toArray false).wp P Q) J .normal) := A.tn (A.region h)
theorem tsr {x : List Oper} {y : Code} {id : Nat} {J : Exit → Act → World → Prop} (h : A n env w0 S H (wpList P x.toArray (Exit.then (y.wp P Q) Q) x)) : A n env w0 S H (Exit.then ((Code.seq (Code.region id x.toArray false) y).wp P Q) J .normal) := A.tn (A.seq (A.region h))
end
end Go.Proofs.Ytinnnoimmioaiaa.V
namespace Go.Proofs.Ytinnnoimmioaiaa.V
set_option linter.unusedVariables false
set_option linter.unusedSimpArgs false
open Go
/-- a map that a map holds: where it lies, what it has -/
structure MB where
  mb : Option Nat
  mx : List (Int × Int)
  deriving Inhabited
def m0 : MB := ⟨none, []⟩
abbrev encMB (v : MB) : Value := .map v.mb
abbrev mII (b : Nat) (kv : List (Int × Int)) : Item := mapI (fun k : Int => Value.int .i64 k) (fun x : Int => Value.int .i64 x) b kv
abbrev mKI (b : Nat) (kv : List (Int × MB)) : Item := mapI (fun k : Int => Value.int .i64 k) encMB b kv
/-- what is told of a key -/
def kx (kv : List (Int × MB)) (k : Int) : List (Int × Int) := ((mget kv k).getD m0).mx
def kidFoot (kv : List (Int × MB)) : List Nat := kv.flatMap fun p => p.2.mb.toList
/-- all the maps, owned -/
def kidI (kv : List (Int × MB)) : Item where
  foot := kidFoot kv
  holds w := ∀ p ∈ kv, ∃ b, p.2.mb = some b ∧ (mII b p.2.mx).holds w
  loc w w' h hw p hp := by
    obtain ⟨b, e, hb⟩ := hw p hp
    exact ⟨b, e, (mII b p.2.mx).loc w w' (fun c hc => h c (List.mem_flatMap.2 ⟨p, hp, by rw [e]; exact hc⟩)) hb⟩
  here w hw c hc := by
    obtain ⟨p, hp, hc⟩ := List.mem_flatMap.1 hc
    obtain ⟨b, e, hb⟩ := hw p hp
    exact (mII b p.2.mx).here w hb c (by rw [e] at hc; exact hc)
section
variable {β : Type}
theorem mputP (k : Int) (s : β) : ∀ kv : List (Int × β), (mput kv k s).Perm ((k, s) :: mdel kv k)
  | [] => .refl _
  | p :: kv => by
    simp only [mput, mdel]
    by_cases e : p.1 = k
    · rw [if_pos e, if_pos e, e]
    · rw [if_neg e, if_neg e]; exact ((mputP k s kv).cons p).trans (.swap _ _ _)
theorem mgetP {k : Int} {s : β} : ∀ {kv : List (Int × β)}, mget kv k = some s → kv.Perm ((k, s) :: mdel kv k)
  | [], h => by simp [mget] at h
  | p :: kv, h => by
    simp only [mget] at h; simp only [mdel]
    by_cases e : p.1 = k
    · rw [if_pos e] at h ⊢; cases h; rw [← e]
    · rw [if_neg e] at h ⊢; exact ((mgetP h).cons p).trans (.swap _ _ _)
theorem mdel_put (k : Int) (s : β) : ∀ kv : List (Int × β), mdel (mput kv k s) k = mdel kv k
  | [] => by simp [mput, mdel]
  | p :: kv => by
    simp only [mput, mdel]
    by_cases e : p.1 = k
    · rw [if_pos e, if_pos e]; simp [mdel, e]
    · rw [if_neg e, if_neg e]; simp only [mdel, if_neg e]; rw [mdel_put k s kv]
theorem mput_put (k : Int) (s t : β) : ∀ kv : List (Int × β), mput (mput kv k s) k t = mput kv k t
  | [] => by simp [mput]
  | p :: kv => by
    simp only [mput]
    by_cases e : p.1 = k
    · rw [if_pos e, if_pos e]; simp [mput, e]
    · rw [if_neg e, if_neg e]; simp only [mput, if_neg e]; rw [mput_put k s t kv]
theorem mdelN {k : Int} : ∀ {kv : List (Int × β)}, mget kv k = none → mdel kv k = kv
  | [], _ => rfl
  | p :: kv, h => by
    simp only [mget] at h; simp only [mdel]
    by_cases e : p.1 = k
    · rw [if_pos e] at h; cases h
    · rw [if_neg e] at h; rw [if_neg e, mdelN h]
end
theorem mb_eta {m : MB} {b : Nat} (h : m.mb = some b) : m = ⟨some b, m.mx⟩ := by cases m; cases h; rfl
theorem kx_put (kv : List (Int × MB)) (k q : Int) (m : MB) : kx (mput kv k m) q = if k = q then m.mx else kx kv q := by
  unfold kx; rw [mget_put]; split <;> rfl
theorem kx_none {kv : List (Int × MB)} {k : Int} (h : mget kv k = none) : kx kv k = [] := by unfold kx; rw [h]; rfl
theorem kx_some {kv : List (Int × MB)} {k : Int} {m : MB} (h : mget kv k = some m) : kx kv k = m.mx := by unfold kx; rw [h]; rfl
theorem ents_map {κ β : Type} {enck : κ → Value} {encv : β → Value} : ∀ {es : List MapEntry} {kv kw : List (κ × β)}, Ents enck encv es kv → kv.map (fun p => (p.1, encv p.2)) = kw.map (fun p => (p.1, encv p.2)) → Ents enck encv es kw
  | [], [], [], _, _ => trivial
  | [], [], _ :: _, _, h => by simp at h
  | e :: es, p :: kv, [], _, h => by simp at h
  | e :: es, p :: kv, q :: kw, h, h2 => by
    simp only [List.map_cons, List.cons.injEq, Prod.mk.injEq] at h2
    exact ⟨⟨by rw [← h2.1.1]; exact h.1.1, by rw [← h2.1.2]; exact h.1.2⟩, ents_map h.2 h2.2⟩
  | [], _ :: _, _, h, _ => h.elim
  | _ :: _, [], _, h, _ => h.elim
theorem mKI_map {b : Nat} {kv kw : List (Int × MB)} {w : World} (h : (mKI b kv).holds w) (e : kv.map (fun p => (p.1, encMB p.2)) = kw.map (fun p => (p.1, encMB p.2))) : (mKI b kw).holds w := by
  obtain ⟨⟨es, c, h1, h2, h3⟩, h4⟩ := h
  refine ⟨⟨es, c, h1, ents_map h2 e, h3⟩, ?_⟩
  have e2 := congrArg (List.map (fun p : Int × Value => p.1)) e
  simp only [List.map_map] at e2
  have e3 : kv.map (·.1) = kw.map (·.1) := by simpa [Function.comp_def] using e2
  rw [← e3]; exact h4
theorem map_put {k : Int} {m m' : MB} (hm : m.mb = m'.mb) : ∀ {kv : List (Int × MB)}, mget kv k = some m → kv.map (fun p => (p.1, encMB p.2)) = (mput kv k m').map (fun p => (p.1, encMB p.2))
  | [], h => by simp [mget] at h
  | p :: kv, h => by
    simp only [mget] at h; simp only [mput]
    by_cases e : p.1 = k
    · rw [if_pos e] at h ⊢; cases h; simp [hm]
    · rw [if_neg e] at h ⊢; simp only [List.map_cons]; rw [← map_put hm h]
/-- a map of it, taken out -/
theorem kid_open (kv : List (Int × MB)) (k : Int) {m : MB} (hm : mget kv k = some m) {w : World} (hs : HS w (feet [kidI kv]) [kidI kv] w) :
    ∃ b, m.mb = some b ∧ (∀ it ∈ [kidI (mdel kv k), mII b m.mx], it.holds w) ∧ (feet [kidI (mdel kv k), mII b m.mx]).Nodup ∧ ∀ c ∈ feet [kidI (mdel kv k), mII b m.mx], c ∈ feet [kidI kv] := by
  have hb : (kidI kv).holds w := hs.all _ (by simp)
  have hn := hs.nodup
  have hpm := mgetP hm
  obtain ⟨b, e, h2⟩ := hb (k, m) (mget_mem hm)
  have hp : (kidFoot (mdel kv k) ++ [b]).Perm (kidFoot kv) := by
    have := hpm.flatMap_right (fun p : Int × MB => p.2.mb.toList)
    simp only [List.flatMap_cons] at this
    dsimp only at e; rw [e] at this
    exact List.perm_append_comm.trans this.symm
  refine ⟨b, e, ?_, ?_, ?_⟩
  · intro it hi
    simp only [List.mem_cons, List.not_mem_nil, or_false] at hi
    rcases hi with rfl | rfl
    · exact fun p hp => hb p (hpm.mem_iff.2 (by simp [hp]))
    · exact h2
  · simp only [feet, kidI, mapI, List.flatMap_cons, List.flatMap_nil, List.append_nil] at hn ⊢
    exact hp.nodup_iff.2 hn
  · intro c hc
    simp only [feet, kidI, mapI, List.flatMap_cons, List.flatMap_nil, List.append_nil] at hc ⊢
    exact hp.mem_iff.1 hc
/-- .. and put back; the outer map has it at the key -/
theorem kid_fold (mk : Nat) (kc kv : List (Int × MB)) (k : Int) (b : Nat) (xs ys : List (Int × Int)) (hc : mput kc k ⟨some b, xs⟩ = mput kv k ⟨some b, xs⟩) (hg : mget kc k = some ⟨some b, ys⟩) {w : World} (hs : HS w (feet [mKI mk kc, kidI (mdel kv k), mII b xs]) [mKI mk kc, kidI (mdel kv k), mII b xs] w) :
    ∃ _x : Unit, True ∧ (∀ it ∈ [mKI mk (mput kv k ⟨some b, xs⟩), kidI (mput kv k ⟨some b, xs⟩)], it.holds w) ∧ (feet [mKI mk (mput kv k ⟨some b, xs⟩), kidI (mput kv k ⟨some b, xs⟩)]).Nodup ∧ ∀ c ∈ feet [mKI mk (mput kv k ⟨some b, xs⟩), kidI (mput kv k ⟨some b, xs⟩)], c ∈ feet [mKI mk kc, kidI (mdel kv k), mII b xs] := by
  have ho : (mKI mk kc).holds w := hs.all _ (by simp)
  have hb : (kidI (mdel kv k)).holds w := hs.all _ (by simp)
  have hq : (mII b xs).holds w := hs.all _ (by simp)
  have hn := hs.nodup
  have hp : (kidFoot (mput kv k ⟨some b, xs⟩)).Perm (kidFoot (mdel kv k) ++ [b]) := by
    have := (mputP k (⟨some b, xs⟩ : MB) kv).flatMap_right (fun p : Int × MB => p.2.mb.toList)
    simp only [List.flatMap_cons] at this
    exact this.trans List.perm_append_comm
  refine ⟨(), trivial, ?_, ?_, ?_⟩
  · intro it hi
    simp only [List.mem_cons, List.not_mem_nil, or_false] at hi
    rcases hi with rfl | rfl
    · rw [← hc]; exact mKI_map ho (map_put (m := ⟨some b, ys⟩) (m' := ⟨some b, xs⟩) rfl hg)
    · intro p hp2
      rcases List.mem_cons.1 ((mputP k _ kv).mem_iff.1 hp2) with rfl | h
      · exact ⟨b, rfl, hq⟩
      · exact hb p h
  · simp only [feet, kidI, mapI, List.flatMap_cons, List.flatMap_nil, List.append_nil] at hn ⊢
    exact ((List.Perm.refl [mk]).append hp).nodup_iff.2 hn
  · intro c hc2
    simp only [feet, kidI, mapI, List.flatMap_cons, List.flatMap_nil, List.append_nil] at hc2 ⊢
    exact ((List.Perm.refl [mk]).append hp).mem_iff.1 hc2
/-- a map at a key, for a reader -/
theorem kid_at {kv : List (Int × MB)} {w : World} (h : (kidI kv).holds w) {k : Int} {m : MB} (hm : mget kv k = some m) : ∃ b, m.mb = some b ∧ (mII b m.mx).holds w := h (k, m) (mget_mem hm)
section
variable {P : Program} {n : Nat} {env : Env} {w0 : World} {S : List Nat} {H : List Item} {ops : Array Oper} {o : Oper} {K : Act → World → Prop}
theorem A.kidNil {G : Act → World → Prop} (H' : List Item) (hH : H ++ [kidI []] = H') (h : V.A n env w0 S H' G) : V.A n env w0 S H G := fun a w r s =>
  h a w r (by rw [← hH]; exact s.add (Fr.refl _ _) (by intro p hp; cases hp) (by simp [kidI, kidFoot]) (by simp [kidI, kidFoot]))
theorem mb_none {kv : List (Int × MB)} {k : Int} (h : mget kv k = none) : encMB ((mget kv k).getD m0) = .map none := by rw [h]; rfl
theorem mb_some {kv : List (Int × MB)} {k : Int} {m : MB} {b : Nat} (h : mget kv k = some m) (e : m.mb = some b) : encMB ((mget kv k).getD m0) = .map (some b) := by rw [h]; show Value.map m.mb = _; rw [e]
theorem qt_delNo {κ : Type} {enck : κ → Value} {x y : Operand} {t t2 kt et : TypeId} {k : κ} (ho : o.op = .call { callee := .builtin .delete, args := #[x, y], argTypes := #[t, t2] }) (hx : ev env x = some (.map none)) (hy : ev env y = some (enck k)) (ht : P.underlying t = some (.map kt et)) (hk : KeyOk P kt enck) : Qt P n env w0 S H o (.tuple #[]) :=
  qt_same fun a w r s => by
    simp [execOp, ho, resolve, invoke, builtin, r.ev hx, r.ev hy, Builtin.delete_, run_underlying ht, hk.check]
theorem qt_lenNo {x : Operand} {t kt et : TypeId} (ho : o.op = .call { callee := .builtin .len, args := #[x], argTypes := #[t] }) (hx : ev env x = some (.map none)) (ht : P.underlying t = some (.map kt et)) : Qt P n env w0 S H o (.int .i64 0) :=
  qt_same fun a w r s => by
    simp [execOp, ho, resolve, invoke, builtin, r.ev hx, Builtin.len_, run_underlying ht, goInt]
end
end Go.Proofs.Ytinnnoimmioaiaa.V
