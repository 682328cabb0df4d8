/- A run of code that asks for nothing from outside, reckoned by the kernel: values with numbered blocks, memory as a tree, and what they stand for. Generic: nothing of the dump. A run reckoned by the kernel: what the steps on memory do. Generic: nothing of the dump. A run reckoned by the kernel: operations that leave memory alone. Generic: nothing of the dump. A run reckoned by the kernel: operations on parts, places, texts, slices, that leave memory alone. Generic: nothing of the dump. A run reckoned by the kernel: parts of values, places, slices, lengths, building. Generic: nothing of the dump. A run reckoned by the kernel: operations on memory. Generic: nothing of the dump. A run reckoned by the kernel: maps, ranges over maps and texts. Generic: nothing of the dump. A run reckoned by the kernel: building values, ranges. Generic: nothing of the dump. A run reckoned by the kernel: slices that are laid, ranges, joining, copying. Generic: nothing of the dump. A run reckoned by the kernel: joining and copying slices. Generic: nothing of the dump. A run reckoned by the kernel: one operation; code, calls, regions that draw their order. Generic: nothing of the dump. -/
import Derived.WalkKit
import Derived.WalkLawsBesides
import Derived.Orders
import Derived.Scope
import Derived.Defers
import Derived.Recover
import Derived.Test.YtaacfehlcdkdhaaGreatDoorWa
import Derived.Test.YtaacfehlcdkdhaaGreatDoorVy
import Derived.Test.YtaacfehlcdkdhaaGreatDoorVm
namespace Go.Proofs.YtaacfehlcdkdhaaGreatDoor.R
open Go
set_option linter.unusedVariables false
set_option linter.unusedSimpArgs false

/-- a map from numbers, as a tree of their digits -/
inductive Tri (α : Type) where
  | nil
  | node (l : Tri α) (v : Option α) (r : Tri α)
namespace Tri
variable {α : Type}
noncomputable def get (t : Tri α) : Nat → Option α := Tri.rec (motive := fun _ => Nat → Option α) (fun _ => none) (fun _ v _ gl gr n => bif Nat.beq n 0 then v else bif Nat.beq (Nat.mod n 2) 1 then gl (Nat.div n 2) else gr (Nat.sub (Nat.div n 2) 1)) t
noncomputable def upd (f : Nat) : Tri α → Nat → Option α → Tri α := Nat.rec (motive := fun _ => Tri α → Nat → Option α → Tri α) (fun t _ _ => t) (fun _ ih t n x => Tri.casesOn (motive := fun _ => Tri α) t
  (bif Nat.beq n 0 then .node .nil x .nil else bif Nat.beq (Nat.mod n 2) 1 then .node (ih .nil (Nat.div n 2) x) none .nil else .node .nil none (ih .nil (Nat.sub (Nat.div n 2) 1) x))
  (fun l v r => bif Nat.beq n 0 then .node l x r else bif Nat.beq (Nat.mod n 2) 1 then .node (ih l (Nat.div n 2) x) v r else .node l v (ih r (Nat.sub (Nat.div n 2) 1) x))) f
theorem get_node (l r : Tri α) (v : Option α) (n : Nat) : (Tri.node l v r).get n = bif Nat.beq n 0 then v else bif Nat.beq (Nat.mod n 2) 1 then l.get (Nat.div n 2) else r.get (Nat.sub (Nat.div n 2) 1) := rfl
def lf : Tri α → Tri α | .nil => .nil | .node l _ _ => l
def rt : Tri α → Tri α | .nil => .nil | .node _ _ r => r
def vl : Tri α → Option α | .nil => none | .node _ v _ => v
theorem upd_eq (f : Nat) (t : Tri α) (n : Nat) (x : Option α) : upd (f + 1) t n x = bif Nat.beq n 0 then .node t.lf x t.rt else bif Nat.beq (Nat.mod n 2) 1 then .node (upd f t.lf (Nat.div n 2) x) t.vl t.rt else .node t.lf t.vl (upd f t.rt (Nat.sub (Nat.div n 2) 1) x) := by
  cases t <;> rfl
theorem beqF {n m : Nat} (h : n ≠ m) : Nat.beq n m = false := by cases hb : Nat.beq n m with | true => exact absurd (Nat.eq_of_beq_eq_true hb) h | false => rfl
theorem get_lf (t : Tri α) {n : Nat} (h0 : n ≠ 0) (h1 : n % 2 = 1) : t.get n = t.lf.get (n / 2) := by
  cases t with
  | nil => rfl
  | node l v r =>
    have e1 : Nat.beq (Nat.mod n 2) 1 = true := by show Nat.beq (n % 2) 1 = true; rw [h1]; rfl
    rw [get_node, beqF h0, e1]; rfl
theorem get_rt (t : Tri α) {n : Nat} (h0 : n ≠ 0) (h1 : n % 2 = 0) : t.get n = t.rt.get (n / 2 - 1) := by
  cases t with
  | nil => rfl
  | node l v r =>
    have e1 : Nat.beq (Nat.mod n 2) 1 = false := by show Nat.beq (n % 2) 1 = false; rw [h1]; rfl
    rw [get_node, beqF h0, e1]; rfl
theorem get_zero (t : Tri α) : t.get 0 = t.vl := by cases t <;> rfl
theorem get_upd : ∀ (f : Nat) (t : Tri α) (n m : Nat) (x : Option α), n + 1 < 2 ^ f → (upd f t n x).get m = if m = n then x else t.get m
  | 0, _, n, _, _, h => by simp at h
  | f + 1, t, n, m, x, h => by
    have h2 : n + 1 < 2 * 2 ^ f := by rw [Nat.pow_succ] at h; omega
    rw [upd_eq]
    by_cases h0 : n = 0
    · subst h0
      show (Tri.node t.lf x t.rt).get m = _
      by_cases hm : m = 0
      · subst hm; simp [get_zero, vl]
      · rw [if_neg hm]
        rcases Nat.mod_two_eq_zero_or_one m with h3 | h3
        · rw [get_rt _ hm h3, get_rt t hm h3]; rfl
        · rw [get_lf _ hm h3, get_lf t hm h3]; rfl
    · rcases Nat.mod_two_eq_zero_or_one n with h1 | h1
      · have e1 : Nat.beq (Nat.mod n 2) 1 = false := by show Nat.beq (n % 2) 1 = false; rw [h1]; rfl
        simp only [beqF h0, e1, cond_false]
        by_cases hm : m = 0
        · subst hm; rw [if_neg (fun e => h0 e.symm), get_zero, get_zero]; rfl
        · rcases Nat.mod_two_eq_zero_or_one m with h3 | h3
          · rw [get_rt _ hm h3]
            show (upd f t.rt (n / 2 - 1) x).get (m / 2 - 1) = _
            rw [get_upd f _ _ _ _ (by omega), get_rt t hm h3]
            by_cases e : m = n
            · subst e; simp
            · rw [if_neg e, if_neg (by omega)]
          · rw [get_lf _ hm h3, get_lf t hm h3, if_neg (by omega)]; rfl
      · have e1 : Nat.beq (Nat.mod n 2) 1 = true := by show Nat.beq (n % 2) 1 = true; rw [h1]; rfl
        simp only [beqF h0, e1, cond_true, cond_false]
        by_cases hm : m = 0
        · subst hm; rw [if_neg (fun e => h0 e.symm), get_zero, get_zero]; rfl
        · rcases Nat.mod_two_eq_zero_or_one m with h3 | h3
          · rw [get_rt _ hm h3, get_rt t hm h3, if_neg (by omega)]; rfl
          · rw [get_lf _ hm h3]
            show (upd f t.lf (n / 2) x).get (m / 2) = _
            rw [get_upd f _ _ _ _ (by omega), get_lf t hm h3]
            by_cases e : m = n
            · subst e; simp
            · rw [if_neg e, if_neg (by omega)]
/-- only small numbers -/
noncomputable def put (t : Tri α) (n : Nat) (x : Option α) : Option (Tri α) := bif Nat.ble n 1000000 then some (upd 20 t n x) else none
theorem get_put {t t' : Tri α} {n : Nat} {x : Option α} (h : t.put n x = some t') (m : Nat) : t'.get m = if m = n then x else t.get m := by
  unfold put at h
  cases hb : Nat.ble n 1000000 with
  | false => rw [hb] at h; cases h
  | true =>
    rw [hb] at h; cases h
    have := Nat.le_of_ble_eq_true hb
    exact get_upd 20 t n m x (by omega)
end Tri

/-- a value: its blocks are numbers of our own -/
inductive AV where
  | sc (v : Value)
  | str (l : List UInt8)
  | ptr (i o : Nat)
  | sl (i o n c : Nat)
  | so (i o n k : Nat)
  | mp (i : Nat)
  | fn (f : Fn) (first captured : List AV)
  | ifc (t : TypeId) (v : AV)
  | agg (l : List AV)
  | tup (l : List AV)
/-- a block: which one, how many things it has room for, at which cell we begin to count -/
structure Bl where
  b : Nat
  k : Nat
  o : Nat
/-- which block a number is -/
abbrev Ren := Nat → Option Bl
mutual
def VR (ρ : Ren) : AV → Value → Prop
  | .sc v, x => x = v
  | .str l, x => x = .string ⟨l.toArray⟩
  | .ptr i o, x => ∃ p, ρ i = some p ∧ x = .pointer (some ⟨p.b, p.o + o, none⟩)
  | .sl i o n c, x => ∃ p, ρ i = some p ∧ x = .slice (some ⟨p.b, p.o + o, none⟩) n c
  | .so i o n k, x => ∃ p, ρ i = some p ∧ n ≤ p.k - k ∧ x = .slice (some ⟨p.b, p.o + o, none⟩) n (p.k - k)
  | .mp i, x => ∃ p, ρ i = some p ∧ x = .map (some p.b)
  | .fn f a c, x => ∃ a' c', x = .func f a' c' ∧ VRL ρ a a'.toList ∧ VRL ρ c c'.toList
  | .ifc t v, x => ∃ y, x = .iface t y ∧ VR ρ v y
  | .agg l, x => ∃ a, x = .agg a ∧ VRL ρ l a.toList
  | .tup l, x => ∃ a, x = .tuple a ∧ VRL ρ l a.toList
def VRL (ρ : Ren) : List AV → List Value → Prop
  | [], l => l = []
  | v :: vs, l => ∃ x xs, l = x :: xs ∧ VR ρ v x ∧ VRL ρ vs xs
end
def Ren.le (ρ ρ' : Ren) : Prop := ∀ i p, ρ i = some p → ρ' i = some p
theorem Ren.le.refl (ρ : Ren) : ρ.le ρ := fun _ _ h => h
theorem Ren.le.trans {a b c : Ren} (h : a.le b) (k : b.le c) : a.le c := fun i p e => k i p (h i p e)
mutual
theorem VR.mono {ρ ρ' : Ren} (h : ρ.le ρ') : ∀ (v : AV) (x : Value), VR ρ v x → VR ρ' v x
  | .sc _, _, e => e
  | .str _, _, e => e
  | .ptr i _, _, ⟨p, e, k⟩ => ⟨p, h i p e, k⟩
  | .sl i _ _ _, _, ⟨p, e, k⟩ => ⟨p, h i p e, k⟩
  | .so i _ _ _, _, ⟨p, e, k⟩ => ⟨p, h i p e, k⟩
  | .mp i, _, ⟨p, e, k⟩ => ⟨p, h i p e, k⟩
  | .fn _ a c, _, ⟨a', c', e, k, l⟩ => ⟨a', c', e, VRL.mono h a _ k, VRL.mono h c _ l⟩
  | .ifc _ v, _, ⟨y, e, k⟩ => ⟨y, e, VR.mono h v y k⟩
  | .agg l, _, ⟨a, e, k⟩ => ⟨a, e, VRL.mono h l _ k⟩
  | .tup l, _, ⟨a, e, k⟩ => ⟨a, e, VRL.mono h l _ k⟩
theorem VRL.mono {ρ ρ' : Ren} (h : ρ.le ρ') : ∀ (vs : List AV) (xs : List Value), VRL ρ vs xs → VRL ρ' vs xs
  | [], _, e => e
  | v :: vs, _, ⟨x, xs, e, k, l⟩ => ⟨x, xs, e, VR.mono h v x k, VRL.mono h vs xs l⟩
end
section
variable {ρ : Ren}
theorem VRL.len : ∀ {vs : List AV} {xs : List Value}, VRL ρ vs xs → xs.length = vs.length
  | [], _, e => by cases e; rfl
  | _ :: _, _, ⟨_, _, e, _, l⟩ => by subst e; simp [VRL.len l]
theorem VRL.nil : VRL ρ [] [] := rfl
theorem VRL.cons {v : AV} {x : Value} {vs : List AV} {xs : List Value} (h : VR ρ v x) (k : VRL ρ vs xs) : VRL ρ (v :: vs) (x :: xs) := ⟨x, xs, rfl, h, k⟩
theorem VRL.app : ∀ {vs : List AV} {xs : List Value} {us : List AV} {ys : List Value}, VRL ρ vs xs → VRL ρ us ys → VRL ρ (vs ++ us) (xs ++ ys)
  | [], _, _, _, e, k => by cases e; exact k
  | _ :: _, _, _, _, ⟨x, xs, e, h, l⟩, k => by subst e; exact ⟨x, _, rfl, h, VRL.app l k⟩
theorem VRL.take : ∀ {vs : List AV} {xs : List Value} (n : Nat), VRL ρ vs xs → VRL ρ (vs.take n) (xs.take n)
  | [], _, n, e => by cases e; simp [VRL]
  | _ :: _, _, 0, _ => by simp [VRL]
  | _ :: _, _, n + 1, ⟨x, xs, e, h, l⟩ => by subst e; exact ⟨x, _, rfl, h, VRL.take n l⟩
theorem VRL.drop : ∀ {vs : List AV} {xs : List Value} (n : Nat), VRL ρ vs xs → VRL ρ (vs.drop n) (xs.drop n)
  | [], _, n, e => by cases e; simp [VRL]
  | _ :: _, _, 0, k => k
  | _ :: _, _, n + 1, ⟨x, xs, e, h, l⟩ => by subst e; exact VRL.drop n l
theorem VRL.get : ∀ {vs : List AV} {xs : List Value} {n : Nat} {v : AV}, VRL ρ vs xs → vs[n]? = some v → ∃ x, xs[n]? = some x ∧ VR ρ v x
  | [], _, _, _, _, e => by simp at e
  | _ :: _, _, 0, _, ⟨x, xs, e, h, _⟩, k => by subst e; simp at k; subst k; exact ⟨x, rfl, h⟩
  | _ :: _, _, n + 1, _, ⟨x, xs, e, _, l⟩, k => by subst e; simp at k; simpa using VRL.get l k
theorem VRL.set : ∀ {vs : List AV} {xs : List Value} (n : Nat) {v : AV} {x : Value}, VRL ρ vs xs → VR ρ v x → VRL ρ (vs.set n v) (xs.set n x)
  | [], _, _, _, _, e, _ => by cases e; simp [VRL]
  | _ :: _, _, 0, _, _, ⟨x, xs, e, _, l⟩, k => by subst e; exact ⟨_, _, rfl, k, l⟩
  | _ :: _, _, n + 1, _, _, ⟨x, xs, e, h, l⟩, k => by subst e; exact ⟨x, _, rfl, h, VRL.set n l k⟩
end

/-- what lies in a block -/
structure AE where
  key : AV
  val : AV
  born : Nat
inductive AO where
  | row (cs : List AV) (t : TypeId)
  | orow (cs : List AV) (t : TypeId) (sz : Nat)
  | map (es : List AE) (clock : Nat)
  | sit (s : List UInt8) (pos : Nat)
  | mit (m : Option Nat) (since : Nat) (seen : List Nat) (stepped : Nat)
def EsR (ρ : Ren) : List AE → List MapEntry → Prop
  | [], l => l = []
  | e :: es, l => ∃ x xs, l = x :: xs ∧ (VR ρ e.key x.key ∧ VR ρ e.val x.val ∧ x.born = e.born) ∧ EsR ρ es xs
def OR (ρ : Ren) (q : Bl) : AO → Obj → Prop
  | .row cs t, x => q.o = 0 ∧ ∃ a, x = .cells a t (0, 0) ∧ VRL ρ cs a.toList
  | .orow cs t sz, x => ∃ a l0 l1 l2, x = .cells a t (0, 0) ∧ a.toList = l0 ++ (l1 ++ l2) ∧ l0.length = q.o ∧ VRL ρ cs l1 ∧ q.o + q.k * sz ≤ a.size ∧ cs.length ≤ q.k * sz
  | .map es clock, x => ∃ a, x = .map a clock ∧ EsR ρ es a.toList
  | .sit s pos, x => q.o = 0 ∧ x = .stringIter ⟨s.toArray⟩ pos
  | .mit none since seen st, x => q.o = 0 ∧ x = .mapIter none since seen.toArray st
  | .mit (some m) since seen st, x => q.o = 0 ∧ ∃ p, ρ m = some p ∧ x = .mapIter (some p.b) since seen.toArray st
theorem EsR.mono {ρ ρ' : Ren} (h : ρ.le ρ') : ∀ {es : List AE} {l : List MapEntry}, EsR ρ es l → EsR ρ' es l
  | [], _, e => e
  | _ :: _, _, ⟨x, xs, e, ⟨k1, k2, k3⟩, l⟩ => ⟨x, xs, e, ⟨VR.mono h _ _ k1, VR.mono h _ _ k2, k3⟩, EsR.mono h l⟩
theorem OR.mono {ρ ρ' : Ren} (h : ρ.le ρ') {q : Bl} : ∀ {o : AO} {x : Obj}, OR ρ q o x → OR ρ' q o x
  | .row _ _, _, ⟨z, a, e, l⟩ => ⟨z, a, e, VRL.mono h _ _ l⟩
  | .orow _ _ _, _, ⟨a, l0, l1, l2, e, f, z, l, s⟩ => ⟨a, l0, l1, l2, e, f, z, VRL.mono h _ _ l, s⟩
  | .map _ _, _, ⟨a, e, l⟩ => ⟨a, e, EsR.mono h l⟩
  | .sit _ _, _, e => e
  | .mit none _ _ _, _, e => e
  | .mit (some m) _ _ _, _, ⟨z, p, e, l⟩ => ⟨z, p, h m p e, l⟩

/-- the memory of a run: the blocks, the next free number, what was looked at, what was changed -/
structure HS where
  h : Tri AO
  c : Nat
  R : Nat
  W : Nat
abbrev mem (i m : Nat) : Prop := Nat.testBit m i = true
def bit (m i : Nat) : Nat := Nat.lor m (Nat.shiftLeft 1 i)
theorem mem_bit {m i j : Nat} : mem j (bit m i) ↔ mem j m ∨ j = i := by
  unfold mem bit
  show (m ||| 1 <<< i).testBit j = true ↔ _
  rw [Nat.testBit_or, Nat.one_shiftLeft, Nat.testBit_two_pow, Bool.or_eq_true, decide_eq_true_iff]
  exact or_congr Iff.rfl ⟨fun h => h.symm, fun h => h.symm⟩
structure Rel (M : Nat → Prop) (ρ : Ren) (h : Tri AO) (w : World) : Prop where
  at_ : ∀ i o, M i → h.get i = some o → ∃ p x, ρ i = some p ∧ w.heap[p.b]? = some x ∧ OR ρ p o x
  inj : ∀ i j o o' p q, M i → M j → h.get i = some o → h.get j = some o' → ρ i = some p → ρ j = some q → p.b = q.b → i = j
theorem Rel.sub {M N : Nat → Prop} {ρ : Ren} {h : Tri AO} {w : World} (r : Rel M ρ h w) (hs : ∀ i, N i → M i) : Rel N ρ h w :=
  ⟨fun i o m => r.at_ i o (hs i m), fun i j o o' p q m n => r.inj i j o o' p q (hs i m) (hs j n)⟩
theorem Rel.same {M : Nat → Prop} {ρ : Ren} {h : Tri AO} {w w' : World} (r : Rel M ρ h w) (hh : w'.heap = w.heap) : Rel M ρ h w' :=
  ⟨fun i o m => by rw [hh]; exact r.at_ i o m, r.inj⟩
def new (s s' : HS) (i : Nat) : Prop := s.c ≤ i ∧ i < s'.c
/-- what a step of the run says of the memory alone -/
structure Ab (s s' : HS) : Prop where
  c : s.c ≤ s'.c
  R : ∀ i, mem i s.R → mem i s'.R
  W : ∀ i, mem i s.W → mem i s'.W
  keep : ∀ i, i < s.c → ¬ mem i s'.W → s'.h.get i = s.h.get i
  live : ∀ i o, i < s.c → s'.h.get i = some o → ∃ o', s.h.get i = some o'
  nw : ∀ i, new s s' i → mem i s'.W
  wr : (∀ i, mem i s.W → mem i s.R) → ∀ i, mem i s'.W → mem i s'.R
theorem Ab.refl (s : HS) : Ab s s := ⟨Nat.le_refl _, fun _ h => h, fun _ h => h, fun _ _ _ => rfl, fun _ _ _ h => ⟨_, h⟩, fun i h => by have h1 := h.1; have h2 := h.2; omega, fun h => h⟩
theorem Ab.trans {a b c : HS} (h : Ab a b) (k : Ab b c) : Ab a c :=
  ⟨Nat.le_trans h.c k.c, fun i e => k.R i (h.R i e), fun i e => k.W i (h.W i e),
   fun i hi hn => (k.keep i (Nat.lt_of_lt_of_le hi h.c) hn).trans (h.keep i hi fun e => hn (k.W i e)),
   fun i o hi e => let ⟨o', e'⟩ := k.live i o (Nat.lt_of_lt_of_le hi h.c) e; h.live i o' hi e',
   fun i hi => if hb : i < b.c then k.W i (h.nw i ⟨hi.1, hb⟩) else k.nw i ⟨by omega, hi.2⟩, fun hw => k.wr (h.wr hw)⟩
/-- what a step of the run says of a world -/
structure Tr (M : Nat → Prop) (ρ ρ' : Ren) (s s' : HS) (w w' : World) : Prop where
  ext : ρ.le ρ'
  id : ∀ i p, ρ' i = some p → ρ i = some p ∨ new s s' i
  rel : Rel (fun i => M i ∨ new s s' i) ρ' s'.h w'
  fresh : ∀ i p, new s s' i → ρ' i = some p → w.heap.size ≤ p.b ∨ ∃ j o q, M j ∧ j < s.c ∧ mem j s'.W ∧ s.h.get j = some o ∧ s'.h.get j = none ∧ ρ j = some q ∧ q.b = p.b
  os : w'.os = w.os
  tape : w'.tape = w.tape
  output : w'.output = w.output
  size : w.heap.size ≤ w'.heap.size
  block : ∀ b, b < w.heap.size → (∀ j o q, M j → j < s.c → mem j s'.W → s.h.get j = some o → ρ j = some q → q.b ≠ b) → w'.heap[b]? = w.heap[b]?
theorem Tr.refl {M : Nat → Prop} {ρ : Ren} {s : HS} {w : World} (r : Rel M ρ s.h w) : Tr M ρ ρ s s w w :=
  ⟨Ren.le.refl _, fun _ _ h => .inl h, r.sub fun i hi => hi.resolve_right (fun h => by have := h.1; have := h.2; omega), fun i p h => by have := h.1; have := h.2; omega, rfl, rfl, rfl, Nat.le_refl _, fun _ _ _ => rfl⟩
end Go.Proofs.YtaacfehlcdkdhaaGreatDoor.R
namespace Go.Proofs.YtaacfehlcdkdhaaGreatDoor.R
open Go
set_option linter.unusedVariables false
set_option linter.unusedSimpArgs false

theorem Tr.trans {M : Nat → Prop} {ρ ρ1 ρ2 : Ren} {a b c : HS} {w w1 w2 : World} (ab : Ab a b) (bc : Ab b c)
    (h : Tr M ρ ρ1 a b w w1) (k : Tr (fun i => M i ∨ new a b i) ρ1 ρ2 b c w1 w2) : Tr M ρ ρ2 a c w w2 := by
  have back : ∀ i p, i < a.c → ρ1 i = some p → ρ i = some p := fun i p hi e => (h.id i p e).resolve_right fun n => by have := n.1; omega
  refine ⟨h.ext.trans k.ext, fun i p e => ?_, k.rel.sub fun i hi => ?_, fun i p hi e => ?_, k.os.trans h.os, k.tape.trans h.tape, k.output.trans h.output, Nat.le_trans h.size k.size, fun x hx hc => ?_⟩
  · rcases k.id i p e with e1 | n
    · exact (h.id i p e1).imp_right fun n => ⟨n.1, Nat.lt_of_lt_of_le n.2 bc.c⟩
    · exact .inr ⟨Nat.le_trans ab.c n.1, n.2⟩
  · rcases hi with hi | ⟨h1, h2⟩
    · exact .inl (.inl hi)
    · by_cases hb : i < b.c
      · exact .inl (.inr ⟨h1, hb⟩)
      · exact .inr ⟨by omega, h2⟩
  · by_cases hb : i < b.c
    · have e1 : ρ1 i = some p := (k.id i p e).resolve_right fun n => by have := n.1; omega
      rcases h.fresh i p ⟨hi.1, hb⟩ e1 with h1 | ⟨j, o, q, m1, m2, m3, m4, m5, m6, m7⟩
      · exact .inl h1
      · refine .inr ⟨j, o, q, m1, m2, bc.W _ m3, m4, ?_, m6, m7⟩
        cases hc : c.h.get j with
        | none => rfl
        | some o' => obtain ⟨o2, h2⟩ := bc.live j o' (Nat.lt_of_lt_of_le m2 ab.c) hc; rw [h2] at m5; cases m5
    · rcases k.fresh i p ⟨by omega, hi.2⟩ e with h1 | ⟨j, o, q, m1, m2, m3, m4, m5, m6, m7⟩
      · exact .inl (Nat.le_trans h.size h1)
      · by_cases hj : j < a.c
        · obtain ⟨o', ho'⟩ := ab.live j o hj m4
          exact .inr ⟨j, o', q, m1.resolve_right fun n => by have := n.1; omega, hj, m3, ho', m5, back j q hj m6, m7⟩
        · rcases h.fresh j q ⟨by omega, m2⟩ m6 with h1 | ⟨j0, o0, q0, n1, n2, n3, n4, n5, n6, n7⟩
          · exact .inl (m7 ▸ h1)
          · refine .inr ⟨j0, o0, q0, n1, n2, bc.W _ n3, n4, ?_, n6, n7.trans m7⟩
            cases hc : c.h.get j0 with
            | none => rfl
            | some o' => obtain ⟨o2, h2⟩ := bc.live j0 o' (Nat.lt_of_lt_of_le n2 ab.c) hc; rw [h2] at n5; cases n5
  · have h1 := h.block x hx fun j o q m1 m2 m3 m4 m5 => hc j o q m1 m2 (bc.W _ m3) m4 m5
    rw [← h1]
    refine k.block x (Nat.lt_of_lt_of_le hx h.size) fun j o q m1 m2 m3 m4 m5 => ?_
    by_cases hj : j < a.c
    · obtain ⟨o', ho'⟩ := ab.live j o hj m4
      exact hc j o' q (m1.resolve_right fun n => by have := n.1; omega) hj m3 ho' (back j q hj m5)
    · rcases h.fresh j q ⟨by omega, m2⟩ m5 with h1 | ⟨j0, o0, q0, n1, n2, n3, n4, n5, n6, n7⟩
      · omega
      · rw [← n7]; exact hc j0 o0 q0 n1 n2 (bc.W _ n3) n4 n6

/-- the memory is only looked at -/
theorem Ab.look (s : HS) (i : Nat) : Ab s { s with R := bit s.R i } :=
  ⟨Nat.le_refl _, fun j h => mem_bit.2 (.inl h), fun _ h => h, fun _ _ _ => rfl, fun _ _ _ h => ⟨_, h⟩, fun i h => (by have h1 := h.1; have h2 := h.2; simp at h1 h2; omega), fun hw j h => mem_bit.2 (.inl (hw j h))⟩
theorem bit_wr {R W i : Nat} (h : ∀ j, mem j W → mem j R) (j : Nat) (k : mem j (bit W i)) : mem j (bit R i) := mem_bit.2 ((mem_bit.1 k).imp (h j) id)
theorem Tr.look {M : Nat → Prop} {ρ : Ren} {s s' : HS} {w w' : World} (r : Rel M ρ s.h w) (hh : s'.h = s.h) (hc : s'.c = s.c)
    (h1 : w'.heap = w.heap) (h2 : w'.os = w.os) (h3 : w'.tape = w.tape) (h4 : w'.output = w.output) : Tr M ρ ρ s s' w w' :=
  ⟨Ren.le.refl _, fun _ _ h => .inl h, by rw [hh]; exact (r.same h1).sub fun i hi => hi.resolve_right (fun h => by have := h.1; have := h.2; omega), fun i p h => by have := h.1; have := h.2; omega, h2, h3, h4, by rw [h1]; exact Nat.le_refl _, fun _ _ _ => by rw [h1]⟩

/-- a block is changed -/
theorem Ab.write {s : HS} {i : Nat} {o o' : AO} {t : Tri AO} (hg : s.h.get i = some o) (ht : s.h.put i (some o') = some t) : Ab s ⟨t, s.c, bit s.R i, bit s.W i⟩ := by
  refine ⟨Nat.le_refl _, fun j h => mem_bit.2 (.inl h), fun j h => mem_bit.2 (.inl h), fun j _ hn => ?_, fun j x _ e => ?_, fun i h => (by have h1 := h.1; have h2 := h.2; simp at h1 h2; omega), bit_wr⟩
  · show t.get j = _; rw [Tri.get_put ht, if_neg fun e => hn (mem_bit.2 (.inr e))]
  · replace e : t.get j = some x := e
    rw [Tri.get_put ht] at e
    split at e
    · rename_i h1; subst h1; exact ⟨_, hg⟩
    · exact ⟨_, e⟩
theorem Tr.write {M : Nat → Prop} {ρ : Ren} {s : HS} {w w' : World} {i : Nat} {o o' : AO} {t : Tri AO} {p : Bl} {x : Obj} (r : Rel M ρ s.h w) (hM : M i) (hi : i < s.c) (hg : s.h.get i = some o)
    (ht : s.h.put i (some o') = some t) (hp : ρ i = some p) (hx : w'.heap[p.b]? = some x) (ho : OR ρ p o' x) (hsz : w'.heap.size = w.heap.size) (hother : ∀ b, b ≠ p.b → w'.heap[b]? = w.heap[b]?)
    (h2 : w'.os = w.os) (h3 : w'.tape = w.tape) (h4 : w'.output = w.output) : Tr M ρ ρ s ⟨t, s.c, bit s.R i, bit s.W i⟩ w w' := by
  refine ⟨Ren.le.refl _, fun _ _ h => .inl h, ⟨fun j y m e => ?_, fun j k y z a b m1 m2 e1 e2 e3 e4 e5 => ?_⟩, fun j q h => (by have h1 := h.1; have h2 := h.2; simp at h1 h2; omega), h2, h3, h4, by rw [hsz]; exact Nat.le_refl _, fun b hb hc => ?_⟩
  · replace m : M j := m.resolve_right fun h => by have h1 := h.1; have h2 := h.2; simp at h1 h2; omega
    replace e : t.get j = some y := e
    rw [Tri.get_put ht] at e
    split at e
    · rename_i h1; subst h1; obtain rfl := Option.some.inj e; exact ⟨p, x, hp, hx, ho⟩
    · rename_i h1
      obtain ⟨q, z, e1, e2, e3⟩ := r.at_ j y m e
      refine ⟨q, z, e1, ?_, e3⟩
      rw [hother _ fun h => h1 (r.inj j i y o q p m hM e hg e1 hp h)]; exact e2
  · replace m1 : M j := m1.resolve_right fun h => by have h1 := h.1; have h2 := h.2; simp at h1 h2; omega
    replace m2 : M k := m2.resolve_right fun h => by have h1 := h.1; have h2 := h.2; simp at h1 h2; omega
    have liv : ∀ j y, t.get j = some y → ∃ y', s.h.get j = some y' := fun j y e => by
      rw [Tri.get_put ht] at e
      split at e
      · rename_i h1; subst h1; exact ⟨_, hg⟩
      · exact ⟨_, e⟩
    obtain ⟨y', e1⟩ := liv j y e1
    obtain ⟨z', e2⟩ := liv k z e2
    exact r.inj j k y' z' a b m1 m2 e1 e2 e3 e4 e5
  · exact hother b fun h => hc i o p hM hi (mem_bit.2 (.inr rfl)) hg hp h.symm

/-- a number more -/
def xr (ρ : Ren) (c : Nat) (p : Bl) : Ren := fun i => if i = c then some p else ρ i
theorem xr_le {ρ : Ren} {c : Nat} {p : Bl} (h : ρ c = none) : ρ.le (xr ρ c p) := fun i q e => by
  unfold xr; split
  · rename_i h1; subst h1; rw [h] at e; cases e
  · exact e
theorem xr_self {ρ : Ren} {c : Nat} {p : Bl} : xr ρ c p c = some p := by simp [xr]
theorem xr_ne {ρ : Ren} {c i : Nat} {p : Bl} (h : i ≠ c) : xr ρ c p i = ρ i := by simp [xr, h]
/-- a block is made -/
theorem Ab.made {s : HS} {o : AO} {t : Tri AO} (ht : s.h.put s.c (some o) = some t) : Ab s ⟨t, s.c + 1, bit s.R s.c, bit s.W s.c⟩ := by
  refine ⟨Nat.le_succ _, fun j h => mem_bit.2 (.inl h), fun j h => mem_bit.2 (.inl h), fun j hj _ => ?_, fun j x hj e => ?_, fun i h => mem_bit.2 (.inr (by have h1 := h.1; have h2 := h.2; simp at h1 h2; omega)), bit_wr⟩
  · show t.get j = _; rw [Tri.get_put ht, if_neg (by omega)]
  · replace e : t.get j = some x := e
    rw [Tri.get_put ht, if_neg (by omega)] at e; exact ⟨_, e⟩
theorem Tr.made {M : Nat → Prop} {ρ : Ren} {s : HS} {w w' : World} {o : AO} {t : Tri AO} {k : Nat} {x : Obj} (r : Rel M ρ s.h w) (hn : ρ s.c = none)
    (ht : s.h.put s.c (some o) = some t) (hx : w'.heap = w.heap.push x) (ho : OR ρ ⟨w.heap.size, k, 0⟩ o x)
    (h2 : w'.os = w.os) (h3 : w'.tape = w.tape) (h4 : w'.output = w.output) : Tr M ρ (xr ρ s.c ⟨w.heap.size, k, 0⟩) s ⟨t, s.c + 1, bit s.R s.c, bit s.W s.c⟩ w w' := by
  have hnew : ∀ j, new s ⟨t, s.c + 1, bit s.R s.c, bit s.W s.c⟩ j ↔ j = s.c := fun j => by unfold new; simp; omega
  have hlt : ∀ b y, w.heap[b]? = some y → b < w.heap.size := fun b y e => (Array.getElem?_eq_some_iff.1 e).1
  have old : ∀ b, b < w.heap.size → w'.heap[b]? = w.heap[b]? := fun b hb => by rw [hx, Array.getElem?_push_lt hb, Array.getElem?_eq_getElem hb]
  have lw : ∀ j y p, M j → j ≠ s.c → t.get j = some y → xr ρ s.c ⟨w.heap.size, k, 0⟩ j = some p → p.b < w.heap.size ∧ s.h.get j = some y ∧ ρ j = some p := fun j y p m hj e e1 => by
    rw [Tri.get_put ht, if_neg hj] at e
    rw [xr_ne hj] at e1
    obtain ⟨q, z, e2, e3, _⟩ := r.at_ j y m e
    rw [e1] at e2; cases e2
    exact ⟨hlt _ _ e3, e, e1⟩
  refine ⟨xr_le hn, fun i p e => ?_, ⟨fun j y m e => ?_, fun j l y z a b m1 m2 e1 e2 e3 e4 e5 => ?_⟩, fun j q h e => ?_, h2, h3, h4, by rw [hx]; simp, fun b hb _ => old b hb⟩
  · by_cases h : i = s.c
    · exact .inr ((hnew i).2 h)
    · rw [xr_ne h] at e; exact .inl e
  · replace e : t.get j = some y := e
    by_cases hj : j = s.c
    · subst hj
      rw [Tri.get_put ht, if_pos rfl] at e; obtain rfl := Option.some.inj e
      exact ⟨_, x, xr_self, by rw [hx]; simp, ho.mono (xr_le hn)⟩
    · rw [Tri.get_put ht, if_neg hj] at e
      have m : M j := m.resolve_right fun h => hj ((hnew j).1 h)
      obtain ⟨q, z, e1, e2, e3⟩ := r.at_ j y m e
      exact ⟨q, z, xr_le hn _ _ e1, by rw [old _ (hlt _ _ e2)]; exact e2, e3.mono (xr_le hn)⟩
  · by_cases hj : j = s.c
    · by_cases hl : l = s.c
      · rw [hj, hl]
      · obtain ⟨h1, _⟩ := lw l z b (m2.resolve_right fun h => hl ((hnew l).1 h)) hl e2 e4
        subst hj; rw [xr_self] at e3; cases e3; simp at e5; omega
    · obtain ⟨h1, g1, k1⟩ := lw j y a (m1.resolve_right fun h => hj ((hnew j).1 h)) hj e1 e3
      by_cases hl : l = s.c
      · subst hl; rw [xr_self] at e4; cases e4; simp at e5; omega
      · obtain ⟨_, g2, k2⟩ := lw l z b (m2.resolve_right fun h => hl ((hnew l).1 h)) hl e2 e4
        exact r.inj j l y z a b (m1.resolve_right fun h => hj ((hnew j).1 h)) (m2.resolve_right fun h => hl ((hnew l).1 h)) g1 g2 k1 k2 e5
  · rw [(hnew j).1 h, xr_self] at e; cases e; exact .inl (Nat.le_refl _)

/-- a block goes, and another one comes in its place: a new one, or the same with another number -/
theorem Ab.moved {s : HS} {i : Nat} {o o' : AO} {t u : Tri AO} (hg : s.h.get i = some o) (ht : s.h.put i none = some t) (hu : t.put s.c (some o') = some u) : Ab s ⟨u, s.c + 1, bit (bit s.R i) s.c, bit (bit s.W i) s.c⟩ := by
  refine ⟨Nat.le_succ _, fun j h => mem_bit.2 (.inl (mem_bit.2 (.inl h))), fun j h => mem_bit.2 (.inl (mem_bit.2 (.inl h))), fun j hj hn => ?_, fun j x hj e => ?_, fun i h => mem_bit.2 (.inr (by have h1 := h.1; have h2 := h.2; simp at h1 h2; omega)), fun h => bit_wr (bit_wr h)⟩
  · show u.get j = _; rw [Tri.get_put hu, if_neg (by omega), Tri.get_put ht, if_neg fun e => hn (mem_bit.2 (.inl (mem_bit.2 (.inr e))))]
  · replace e : u.get j = some x := e
    rw [Tri.get_put hu, if_neg (by omega), Tri.get_put ht] at e
    split at e
    · cases e
    · exact ⟨_, e⟩
theorem Tr.movedHere {M : Nat → Prop} {ρ : Ren} {s : HS} {w w' : World} {i : Nat} {o o' : AO} {t u : Tri AO} {p : Bl} {k : Bl} {x : Obj} (hk : k.b = p.b) (r : Rel M ρ s.h w) (hM : M i) (hi : i < s.c) (hn : ρ s.c = none) (hg : s.h.get i = some o)
    (ht : s.h.put i none = some t) (hu : t.put s.c (some o') = some u) (hp : ρ i = some p) (hx : w'.heap[p.b]? = some x) (ho : OR ρ k o' x) (hsz : w'.heap.size = w.heap.size) (hother : ∀ b, b ≠ p.b → w'.heap[b]? = w.heap[b]?)
    (h2 : w'.os = w.os) (h3 : w'.tape = w.tape) (h4 : w'.output = w.output) : Tr M ρ (xr ρ s.c k) s ⟨u, s.c + 1, bit (bit s.R i) s.c, bit (bit s.W i) s.c⟩ w w' := by
  have hnew : ∀ j, new s ⟨u, s.c + 1, bit (bit s.R i) s.c, bit (bit s.W i) s.c⟩ j ↔ j = s.c := fun j => by unfold new; simp; omega
  have lw : ∀ j y, j ≠ s.c → u.get j = some y → j ≠ i ∧ s.h.get j = some y := fun j y hj e => by
    rw [Tri.get_put hu, if_neg hj, Tri.get_put ht] at e
    split at e
    · cases e
    · rename_i h1; exact ⟨h1, e⟩
  refine ⟨xr_le hn, fun j q e => ?_, ⟨fun j y m e => ?_, fun j l y z a b m1 m2 e1 e2 e3 e4 e5 => ?_⟩, fun j q h e => ?_, h2, h3, h4, by rw [hsz]; exact Nat.le_refl _, fun b hb hc => ?_⟩
  · by_cases h : j = s.c
    · exact .inr ((hnew j).2 h)
    · rw [xr_ne h] at e; exact .inl e
  · replace e : u.get j = some y := e
    by_cases hj : j = s.c
    · subst hj
      rw [Tri.get_put hu, if_pos rfl] at e; obtain rfl := Option.some.inj e
      exact ⟨_, x, xr_self, by rw [hk]; exact hx, ho.mono (xr_le hn)⟩
    · have m : M j := m.resolve_right fun h => hj ((hnew j).1 h)
      obtain ⟨h1, e⟩ := lw j y hj e
      obtain ⟨q, z, e1, e2, e3⟩ := r.at_ j y m e
      exact ⟨q, z, xr_le hn _ _ e1, by rw [hother _ fun h => h1 (r.inj j i y o q p m hM e hg e1 hp h)]; exact e2, e3.mono (xr_le hn)⟩
  · have sole : ∀ l z b, l ≠ s.c → (M l ∨ new s ⟨u, s.c + 1, bit (bit s.R i) s.c, bit (bit s.W i) s.c⟩ l) → u.get l = some z → xr ρ s.c k l = some b → b.b ≠ p.b := fun l z b hl m e e' h => by
      obtain ⟨h1, e⟩ := lw l z hl e
      rw [xr_ne hl] at e'
      exact h1 (r.inj l i z o b p (m.resolve_right fun h => hl ((hnew l).1 h)) hM e hg e' hp h)
    by_cases hj : j = s.c
    · by_cases hl : l = s.c
      · rw [hj, hl]
      · subst hj; rw [xr_self] at e3; cases e3
        exact absurd (e5.symm.trans hk) (sole l z b hl m2 e2 e4)
    · by_cases hl : l = s.c
      · subst hl; rw [xr_self] at e4; cases e4
        exact absurd (e5.trans hk) (sole j y a hj m1 e1 e3)
      · obtain ⟨_, e1⟩ := lw j y hj e1
        obtain ⟨_, e2⟩ := lw l z hl e2
        rw [xr_ne hj] at e3; rw [xr_ne hl] at e4
        exact r.inj j l y z a b (m1.resolve_right fun h => hj ((hnew j).1 h)) (m2.resolve_right fun h => hl ((hnew l).1 h)) e1 e2 e3 e4 e5
  · rw [(hnew j).1 h, xr_self] at e; cases e
    refine .inr ⟨i, o, p, hM, hi, mem_bit.2 (.inl (mem_bit.2 (.inr rfl))), hg, ?_, hp, hk.symm⟩
    show u.get i = none
    rw [Tri.get_put hu, if_neg (by omega), Tri.get_put ht, if_pos rfl]
  · exact hother b fun h => hc i o p hM hi (mem_bit.2 (.inl (mem_bit.2 (.inr rfl)))) hg hp h.symm
theorem Tr.movedAway {M : Nat → Prop} {ρ : Ren} {s : HS} {w w' : World} {i : Nat} {o o' : AO} {t u : Tri AO} {k : Nat} {x : Obj} (r : Rel M ρ s.h w) (hi : i < s.c) (hn : ρ s.c = none) (hg : s.h.get i = some o)
    (ht : s.h.put i none = some t) (hu : t.put s.c (some o') = some u) (hx : w'.heap = w.heap.push x) (ho : OR ρ ⟨w.heap.size, k, 0⟩ o' x)
    (h2 : w'.os = w.os) (h3 : w'.tape = w.tape) (h4 : w'.output = w.output) : Tr M ρ (xr ρ s.c ⟨w.heap.size, k, 0⟩) s ⟨u, s.c + 1, bit (bit s.R i) s.c, bit (bit s.W i) s.c⟩ w w' := by
  have hr : Rel M ρ t w := ⟨fun j y m e => r.at_ j y m (by rw [Tri.get_put ht] at e; split at e <;> first | cases e | exact e), fun j l y z a b m1 m2 e1 e2 => r.inj j l y z a b m1 m2 (by rw [Tri.get_put ht] at e1; split at e1 <;> first | cases e1 | exact e1) (by rw [Tri.get_put ht] at e2; split at e2 <;> first | cases e2 | exact e2)⟩
  have k := Tr.made (s := ⟨t, s.c, s.R, s.W⟩) hr hn hu hx ho h2 h3 h4
  refine ⟨k.ext, k.id, k.rel, fun j q h e => ?_, k.os, k.tape, k.output, k.size, fun b hb _ => ?_⟩
  · have hj : j = s.c := by have h1 := h.1; have h2 := h.2; simp at h1 h2; omega
    subst hj; rw [xr_self] at e; cases e; exact .inl (Nat.le_refl _)
  · rw [hx, Array.getElem?_push_lt hb, Array.getElem?_eq_getElem hb]
end Go.Proofs.YtaacfehlcdkdhaaGreatDoor.R
namespace Go.Proofs.YtaacfehlcdkdhaaGreatDoor.R
open Go
set_option linter.unusedVariables false
set_option linter.unusedSimpArgs false
open V (pureRun pureRun_run isScalar aggOf run_isAgg_scalar run_isAgg_agg eqV run_eqV partV run_part str_cat str_size add_lit' callOk)

/-- the program's tables; they may be laid otherwise, to be read faster -/
structure Tab where
  P : Program
  i : TypeId → Option TypeInfo
  f : FuncId → Option Func
def natTab (P : Program) : Tab := ⟨P, P.info?, fun f => P.funcs[f]?⟩
def Tab.u (T : Tab) (t : TypeId) : Option TypeDesc := match T.i t with
  | some { desc := .named _ u, .. } => (match T.i u with | some i => some i.desc | none => none)
  | some i => some i.desc
  | none => none
def aggT (T : Tab) (t : TypeId) : Option Nat := match T.u t with
  | some (.struct _) => (match T.i t with | some i => some i.size | none => none)
  | some (.array _ _) => (match T.i t with | some i => some i.size | none => none)
  | _ => none
def scT (T : Tab) (t : TypeId) : Bool := match T.u t with | some (.struct _) => false | some (.array _ _) => false | some _ => true | none => false
def callT (T : Tab) (f : FuncId) : Bool := match T.f f with | some fn => fn.name != "runtime.NumGoroutine" && fn.body.isSome | none => false
theorem nat_i (P : Program) (t : TypeId) : (natTab P).i t = P.info? t := rfl
theorem nat_f (P : Program) (f : FuncId) : (natTab P).f f = P.funcs[f]? := rfl
theorem nat_P (P : Program) : (natTab P).P = P := rfl
theorem nat_u (P : Program) (t : TypeId) : (natTab P).u t = P.underlying t := by
  unfold Tab.u Program.underlying
  simp only [nat_i]
  generalize P.info? t = z
  cases z with
  | none => rfl
  | some i =>
    obtain ⟨desc, _, _, _, _, _, _, _, _, _⟩ := i
    cases desc <;> first | rfl | (rename_i n u; simp only []; cases P.info? u <;> rfl)
theorem nat_agg (P : Program) (t : TypeId) : aggT (natTab P) t = aggOf P t := by
  unfold aggT aggOf
  rw [nat_u, nat_i]
  cases P.underlying t with
  | none => rfl
  | some d => cases d <;> first | rfl | (cases P.info? t <;> rfl)
theorem nat_sc (P : Program) (t : TypeId) : scT (natTab P) t = isScalar P t := by
  unfold scT isScalar
  rw [nat_u]
  cases P.underlying t with
  | none => rfl
  | some d => cases d <;> rfl
theorem nat_call (P : Program) (f : FuncId) : callT (natTab P) f = callOk P f := rfl
def ofC1 : Value → AV
  | .string s => .str s.data.toList
  | v => .sc v
/-- a value without addresses of ours -/
def ofC : Value → AV
  | .string s => .str s.data.toList
  | .agg a => .agg (a.toList.map ofC1)
  | .tuple a => .tup (a.toList.map ofC1)
  | v => .sc v
theorem VR_ofC1 (ρ : Ren) (v : Value) : VR ρ (ofC1 v) v := by
  cases v <;> first | rfl | (simp [ofC1, VR])
theorem VRL_ofC1 (ρ : Ren) : ∀ l : List Value, VRL ρ (l.map ofC1) l
  | [] => rfl
  | v :: l => ⟨v, l, rfl, VR_ofC1 ρ v, VRL_ofC1 ρ l⟩
theorem VR_ofC (ρ : Ren) (v : Value) : VR ρ (ofC v) v := by
  cases v <;> first | rfl | (simp [ofC, VR]; done) | exact ⟨_, rfl, VRL_ofC1 ρ _⟩

noncomputable def evA (env : Tri AV) : Operand → Option AV
  | .tmp t => env.get t
  | .const v => some (ofC v)
  | .global g => some (.sc (.pointer (some ⟨g, 0, none⟩)))
  | .func f => some (.fn (.func f) [] [])
structure ER (n : Nat) (ρ : Ren) (env : Tri AV) (a : Act) : Prop where
  size : a.tmps.size = n
  get : ∀ t v, env.get t = some v → VR ρ v (a.tmps.getD t undef)
theorem ER.mono {n : Nat} {ρ ρ' : Ren} {env : Tri AV} {a : Act} (h : ρ.le ρ') (r : ER n ρ env a) : ER n ρ' env a := ⟨r.size, fun t v e => VR.mono h _ _ (r.get t v e)⟩
theorem ER.ev {n : Nat} {ρ : Ren} {env : Tri AV} {a : Act} {x : Operand} {v : AV} (r : ER n ρ env a) (h : evA env x = some v) : VR ρ v (a.eval x) := by
  cases x with
  | tmp t => exact r.get t v h
  | const u => simp only [evA, Option.some.injEq] at h; subst h; exact VR_ofC ρ u
  | global g => simp only [evA, Option.some.injEq] at h; subst h; rfl
  | func f => simp only [evA, Option.some.injEq] at h; subst h; exact ⟨#[], #[], rfl, rfl, rfl⟩

mutual
def toV : AV → Option Value
  | .sc v => some v
  | .str l => some (.string ⟨l.toArray⟩)
  | .agg l => (match toVs l with | some xs => some (.agg xs.toArray) | none => none)
  | .tup l => (match toVs l with | some xs => some (.tuple xs.toArray) | none => none)
  | .ifc t v => (match toV v with | some x => some (.iface t x) | none => none)
  | _ => none
def toVs : List AV → Option (List Value)
  | [] => some []
  | v :: vs => (match toV v with | some x => (match toVs vs with | some xs => some (x :: xs) | none => none) | none => none)
end
mutual
theorem toV_eq {ρ : Ren} : ∀ (v : AV) (x y : Value), toV v = some x → VR ρ v y → y = x
  | .sc v, x, y, h, k => by simp [toV] at h; subst h; exact k
  | .str l, x, y, h, k => by simp [toV] at h; subst h; exact k
  | .agg l, x, y, h, ⟨a, e, k⟩ => by
    simp only [toV] at h; split at h
    · rename_i xs hx; have := toVs_eq l xs _ hx k; cases h; subst e; rw [← this]
    · cases h
  | .tup l, x, y, h, ⟨a, e, k⟩ => by
    simp only [toV] at h; split at h
    · rename_i xs hx; have := toVs_eq l xs _ hx k; cases h; subst e; rw [← this]
    · cases h
  | .ifc t v, x, y, h, ⟨z, e, k⟩ => by
    simp only [toV] at h; split at h
    · rename_i u hx; have := toV_eq v u z hx k; cases h; subst e; rw [← this]
    · cases h
  | .ptr .., _, _, h, _ => by simp [toV] at h
  | .sl .., _, _, h, _ => by simp [toV] at h
  | .so .., _, _, h, _ => by simp [toV] at h
  | .mp .., _, _, h, _ => by simp [toV] at h
  | .fn .., _, _, h, _ => by simp [toV] at h
theorem toVs_eq {ρ : Ren} : ∀ (vs : List AV) (xs ys : List Value), toVs vs = some xs → VRL ρ vs ys → ys = xs
  | [], _, _, h, k => by simp [toVs] at h; subst h; exact k
  | v :: vs, xs, ys, h, ⟨y, ys', e, k, l⟩ => by
    simp only [toVs] at h; split at h
    · rename_i x hx
      split at h
      · rename_i xs' hxs
        cases h; subst e; rw [toV_eq v x y hx k, toVs_eq vs xs' ys' hxs l]
      · cases h
    · cases h
end
/-- a value as the model has it -/
noncomputable def evC (env : Tri AV) (x : Operand) : Option Value := match evA env x with | some v => toV v | none => none
noncomputable def evCD (env : Tri AV) (x : Operand) : Value := match evC env x with | some v => v | none => undef
noncomputable def okC (env : Tri AV) : List Operand → Bool
  | [] => true
  | x :: l => (match evC env x with | some _ => okC env l | none => false)
theorem okC_mem {env : Tri AV} : ∀ {l : List Operand}, okC env l = true → ∀ x ∈ l, ∃ v, evC env x = some v
  | [], _, _, hx => by cases hx
  | y :: l, h, x, hx => by
    simp only [okC] at h
    split at h
    · rename_i v hv
      rcases List.mem_cons.1 hx with rfl | hx
      · exact ⟨v, hv⟩
      · exact okC_mem h x hx
    · cases h
theorem evC_eq {n : Nat} {ρ : Ren} {env : Tri AV} {a : Act} {x : Operand} {v : Value} (r : ER n ρ env a) (h : evC env x = some v) : a.eval x = v := by
  unfold evC at h
  split at h
  · rename_i u hu; exact toV_eq u v _ h (r.ev hu)
  · cases h
def noSel : Op → Bool | .select .. => false | _ => true
/-- what the model itself reckons, of values without addresses -/
noncomputable def pureX (T : Tab) (env : Tri AV) (o : Oper) : Option AV :=
  bif okC env o.op.operands.toList && noSel o.op then (match pureRun T.P (execOp (evCD env) o) with | some (.value v) => some (ofC v) | _ => none) else none
/-- a value, in every world -/
def Gives (P : Program) (ρ : Ren) (a : Act) (o : Oper) (v : AV) : Prop := ∃ x, (∀ w, (execOp a.eval o).run P w = .ok (.value x) w) ∧ VR ρ v x
theorem pureX_ok {P : Program} {n : Nat} {ρ : Ren} {env : Tri AV} {a : Act} {o : Oper} {v : AV} (r : ER n ρ env a) (h : pureX (natTab P) env o = some v) : Gives P ρ a o v := by
  unfold pureX at h
  try simp only [nat_u, nat_i, nat_f, nat_agg, nat_sc, nat_call, nat_P] at h
  cases hc : okC env o.op.operands.toList && noSel o.op with
  | false => rw [hc] at h; cases h
  | true =>
    rw [hc] at h
    simp only [Bool.and_eq_true] at hc
    obtain ⟨h1, h2⟩ := hc
    have he : execOp a.eval o = execOp (evCD env) o := by
      refine execOp_congr o (fun cs b e => ?_) fun x hx => ?_
      · rw [e] at h2; simp [noSel] at h2
      · obtain ⟨u, hu⟩ := okC_mem h1 x (by simpa using hx)
        rw [evC_eq r hu]; simp [evCD, hu]
    simp only [cond_true] at h
    split at h
    · rename_i x hx
      cases h
      exact ⟨x, fun w => by rw [he]; exact pureRun_run _ _ hx w, VR_ofC ρ x⟩
    · cases h

section
variable {P : Program} {n : Nat} {ρ : Ren} {env : Tri AV} {a : Act} {o : Oper}
/-! moves -/
noncomputable def moveX (env : Tri AV) : Op → Option AV
  | .move x | .assign x => evA env x
  | .pick c x y => (match evA env c with | some (.sc (.bool t)) => bif t then evA env x else evA env y | _ => none)
  | .makeFunc f first caps => (match evs env first.toList, evs env caps.toList with | some l, some m => some (.fn f l m) | _, _ => none)
  | .extract x k => (match evA env x with | some (.tup l) => l[k]? | _ => none)
  | _ => none
  where
  evs (env : Tri AV) : List Operand → Option (List AV)
    | [] => some []
    | x :: l => (match evA env x with | some v => (match evs env l with | some vs => some (v :: vs) | none => none) | none => none)
theorem evs_ok (r : ER n ρ env a) : ∀ {l : List Operand} {vs : List AV}, moveX.evs env l = some vs → VRL ρ vs (l.map a.eval)
  | [], vs, h => by simp only [moveX.evs, Option.some.injEq] at h; subst h; rfl
  | x :: l, vs, h => by
    simp only [moveX.evs] at h
    split at h
    · rename_i v hv
      split at h
      · rename_i us hu; cases h; exact ⟨_, _, rfl, r.ev hv, evs_ok r hu⟩
      · cases h
    · cases h
theorem moveX_ok {v : AV} (r : ER n ρ env a) (h : moveX env o.op = some v) : Gives P ρ a o v := by
  unfold moveX at h
  split at h
  · rename_i x ho; exact ⟨_, fun w => by simp [execOp, ho], r.ev h⟩
  · rename_i x ho; exact ⟨_, fun w => by simp [execOp, ho], r.ev h⟩
  · rename_i c x y ho
    split at h
    · rename_i t hc
      have hc' : a.eval c = .bool t := r.ev hc
      cases t
      · exact ⟨a.eval y, fun w => by simp [execOp, ho, hc', asBool], r.ev h⟩
      · exact ⟨a.eval x, fun w => by simp [execOp, ho, hc', asBool], r.ev h⟩
    · cases h
  · rename_i f first caps ho
    split at h
    · rename_i l m hl hm
      cases h
      exact ⟨.func f (first.map a.eval) (caps.map a.eval), fun w => by simp [execOp, ho, Instr.makeFunc], _, _, rfl, by simpa using evs_ok r hl, by simpa using evs_ok r hm⟩
    · cases h
  · rename_i x k ho
    split at h
    · rename_i l hx
      obtain ⟨b, hb, hl⟩ := r.ev hx
      obtain ⟨y, hy, hv⟩ := hl.get h
      exact ⟨y, fun w => by simp [execOp, ho, hb, Instr.extract, show b[k]? = some y by rw [← Array.getElem?_toList]; exact hy], hv⟩
    · cases h
  · cases h

/-! '==' of what is not reckoned by the model: addresses against nil, texts -/
def eqL : List UInt8 → List UInt8 → Bool
  | [], [] => true
  | a :: l, b :: m => Nat.beq a.toNat b.toNat && eqL l m
  | _, _ => false
theorem eqL_iff : ∀ {l m : List UInt8}, eqL l m = true ↔ l = m
  | [], [] => by simp [eqL]
  | [], _ :: _ => by simp [eqL]
  | _ :: _, [] => by simp [eqL]
  | a :: l, b :: m => by
    simp only [eqL, Bool.and_eq_true, List.cons.injEq, eqL_iff (l := l) (m := m)]
    refine and_congr ⟨fun h => ?_, fun h => by subst h; exact Nat.beq_refl _⟩ Iff.rfl
    exact UInt8.toNat_inj.1 (Nat.eq_of_beq_eq_true h)
theorem eqL_eq (l m : List UInt8) : eqL l m = (l == m) := by
  rw [Bool.eq_iff_iff, eqL_iff]; simp
def nilX (d : Option TypeDesc) : AV → AV → Option Bool
  | .ptr _ _, .sc (.pointer none) => (match d with | some (.pointer _) => some false | _ => none)
  | .sc (.pointer none), .ptr _ _ => (match d with | some (.pointer _) => some false | _ => none)
  | .sl .., .sc (.slice none _ _) => (match d with | some (.slice _) => some false | _ => none)
  | .so .., .sc (.slice none _ _) => (match d with | some (.slice _) => some false | _ => none)
  | .mp _, .sc (.map none) => (match d with | some (.map _ _) => some false | _ => none)
  | .fn .., .sc .nilFunc => (match d with | some (.func ..) => some false | _ => none)
  | .ifc .., .sc .nilIface => (match d with | some (.interface _) => some false | _ => none)
  | .str l, .str m => (match d with | some .string => some (eqL l m) | _ => none)
  | _, _ => none
theorem toList_bs (l : List UInt8) : (⟨l.toArray⟩ : ByteArray).toList = l := by
  rw [ByteArray.toList_eq]
end
end Go.Proofs.YtaacfehlcdkdhaaGreatDoor.R
namespace Go.Proofs.YtaacfehlcdkdhaaGreatDoor.R
open Go
set_option linter.unusedVariables false
set_option linter.unusedSimpArgs false
open V (pureRun pureRun_run isScalar aggOf run_isAgg_scalar run_isAgg_agg eqV run_eqV partV run_part str_cat str_size add_lit' callOk)

section
variable {P : Program} {n : Nat} {ρ : Ren} {env : Tri AV} {a : Act} {o : Oper}
def calm : Value → Value → Bool
  | .nilIface, .nilIface => false
  | .agg _, .agg _ => false
  | _, _ => true
theorem eqGuard_run (op : BinOp) (t : TypeId) (x y : Operand) (u v : Value) (h : calm u v = true) (w : World) : (eqGuard op t x y u v).run P w = .ok () w := by
  unfold eqGuard
  cases op <;> simp <;> split <;> simp_all [calm]
def strs : AV → AV → Bool | .str _, .str _ => true | _, _ => false
theorem nilE {t : TypeId} {u v : AV} {b : Bool} (d : Nat) (hs : strs u v = false) (h : nilX (P.underlying t) u v = some b) {X Y : Value} (hx : VR ρ u X) (hy : VR ρ v Y) (w : World) :
    (Op.equalIn (d + 1) t X Y).run P w = .ok b w ∧ calm X Y = true ∧
      binOp .eql t X Y = (do pure (.bool (← Op.equal t X Y))) ∧ binOp .neq t X Y = (do pure (.bool (!(← Op.equal t X Y)))) := by
  unfold nilX at h
  split at h
  · split at h
    · rename_i e hd; cases h
      obtain ⟨p, _, rfl⟩ := hx; cases hy
      exact ⟨by simp [Op.equalIn, run_underlying hd], rfl, rfl, rfl⟩
    · cases h
  · split at h
    · rename_i e hd; cases h
      obtain ⟨p, _, rfl⟩ := hy; cases hx
      exact ⟨by simp [Op.equalIn, run_underlying hd], rfl, rfl, rfl⟩
    · cases h
  · split at h
    · rename_i e hd; cases h
      obtain ⟨p, _, rfl⟩ := hx; cases hy
      exact ⟨by simp [Op.equalIn, run_underlying hd], rfl, rfl, rfl⟩
    · cases h
  · split at h
    · rename_i e hd; cases h
      obtain ⟨p, _, _, rfl⟩ := hx; cases hy
      exact ⟨by simp [Op.equalIn, run_underlying hd], rfl, rfl, rfl⟩
    · cases h
  · split at h
    · rename_i e hd; cases h
      obtain ⟨p, _, rfl⟩ := hx; cases hy
      exact ⟨by simp [Op.equalIn, run_underlying hd], rfl, rfl, rfl⟩
    · cases h
  · split at h
    · rename_i e hd; cases h
      obtain ⟨p, q, rfl, _⟩ := hx; cases hy
      exact ⟨by simp [Op.equalIn, run_underlying hd], rfl, rfl, rfl⟩
    · cases h
  · split at h
    · rename_i e hd; cases h
      obtain ⟨p, rfl, _⟩ := hx; cases hy
      exact ⟨by simp [Op.equalIn, run_underlying hd], rfl, rfl, rfl⟩
    · cases h
  · cases hs
  · cases h
theorem nilX_ok {t : TypeId} {x y : Operand} {u v : AV} {b : Bool} (h : nilX (P.underlying t) u v = some b) {X Y : Value} (hx : VR ρ u X) (hy : VR ρ v Y) (w : World) :
    ((do eqGuard .eql t x y X Y; binOp .eql t X Y : Sem Value)).run P w = .ok (.bool b) w ∧ ((do eqGuard .neq t x y X Y; binOp .neq t X Y : Sem Value)).run P w = .ok (.bool (!b)) w := by
  cases hs : strs u v with
  | false =>
    obtain ⟨h1, h2, h3, h4⟩ := nilE 9999 hs h hx hy w
    have h5 : (Op.equal t X Y).run P w = .ok b w := h1
    rw [h3, h4, Sem.run_bind, Sem.run_bind, eqGuard_run _ _ _ _ _ _ h2, eqGuard_run _ _ _ _ _ _ h2]
    simp [Result.andThen_ok, h5]
  | true =>
    cases u <;> cases v <;> simp [strs] at hs
    rename_i l m
    cases hx; cases hy
    simp only [nilX] at h
    split at h
    · cases h
      constructor <;> simp [eqGuard_run _ _ _ _ _ _ (rfl : calm (.string ⟨l.toArray⟩) (.string ⟨m.toArray⟩) = true), binOp, Op.stringOp, toList_bs, eqL_eq]
    · cases h
noncomputable def eqX (T : Tab) (env : Tri AV) : Op → Option AV
  | .binOp .eql t x y _ => (match evA env x, evA env y with | some u, some v => (match nilX (T.u t) u v with | some b => some (.sc (.bool b)) | none => none) | _, _ => none)
  | .binOp .neq t x y _ => (match evA env x, evA env y with | some u, some v => (match nilX (T.u t) u v with | some b => some (.sc (.bool (!b))) | none => none) | _, _ => none)
  | .binOp .add _ x y _ => (match evA env x, evA env y with
    | some (.str l), some (.str m) => bif Nat.ble (Nat.add l.length m.length) 9223372036854775807 then some (.str (l ++ m)) else none
    | _, _ => none)
  | .makeInterface t x => (match evA env x, T.u t with
    | some _, some (.interface _) => none
    | some v, some _ => some (.ifc t v)
    | _, _ => none)
  | .nilCheck x => (match evA env x with
    | some (.ptr i k) => some (.ptr i k)
    | some (.fn (.func f) l m) => some (.fn (.func f) l m)
    | _ => none)
  | .typeAssert x _ t ok => (match evA env x, T.u t with
    | some (.ifc _ _), some (.interface _) => none
    | some (.ifc u v), some _ => bif Nat.beq u t then some (bif ok then .tup [v, .sc (.bool true)] else v) else none
    | _, _ => none)
  | _ => none
theorem eqX_ok {v : AV} (r : ER n ρ env a) (h : eqX (natTab P) env o.op = some v) : Gives P ρ a o v := by
  unfold eqX at h
  try simp only [nat_u, nat_i, nat_f, nat_agg, nat_sc, nat_call, nat_P] at h
  split at h
  · rename_i t x y ty ho
    split at h
    · rename_i u v hu hv
      split at h
      · rename_i b hb; cases h
        exact ⟨.bool b, fun w => by have := (nilX_ok (x := x) (y := y) hb (r.ev hu) (r.ev hv) w).1; simp only [execOp, ho]; rw [Sem.run_bind, this]; rfl, rfl⟩
      · cases h
    · cases h
  · rename_i t x y ty ho
    split at h
    · rename_i u v hu hv
      split at h
      · rename_i b hb; cases h
        exact ⟨.bool (!b), fun w => by have := (nilX_ok (x := x) (y := y) hb (r.ev hu) (r.ev hv) w).2; simp only [execOp, ho]; rw [Sem.run_bind, this]; rfl, rfl⟩
      · cases h
    · cases h
  · rename_i t x y ty ho
    split at h
    · rename_i l m hl hm
      cases hb : Nat.ble (Nat.add l.length m.length) 9223372036854775807 with
      | false => rw [hb] at h; cases h
      | true =>
        rw [hb] at h; cases h
        have hle : l.length + m.length ≤ 9223372036854775807 := Nat.le_of_ble_eq_true hb
        have hx : a.eval x = .string ⟨l.toArray⟩ := r.ev hl
        have hy : a.eval y = .string ⟨m.toArray⟩ := r.ev hm
        refine ⟨.string ⟨(l ++ m).toArray⟩, fun w => ?_, rfl⟩
        have h2 : ¬ (((⟨l.toArray⟩ : ByteArray).size + (⟨m.toArray⟩ : ByteArray).size : Nat) : Int) > IntKind.i64.max := by
          have e1 : (⟨l.toArray⟩ : ByteArray).size = l.length := rfl
          have e2 : (⟨m.toArray⟩ : ByteArray).size = m.length := rfl
          rw [e1, e2]; simp only [IntKind.max, IntKind.signed, IntKind.bits]; simp; omega
        have h3 : (Op.stringOp .add ⟨l.toArray⟩ ⟨m.toArray⟩).run P w = .ok (.string ⟨(l ++ m).toArray⟩) w := by
          unfold Op.stringOp; simp only []; rw [if_neg h2, str_cat]; rfl
        simp [execOp, ho, hx, hy, eqGuard, binOp, h3]
    · cases h
  · rename_i t x ho
    split at h
    · cases h
    · rename_i v d hd hv hne
      cases h
      refine ⟨.iface t (a.eval x), fun w => ?_, _, rfl, r.ev hv⟩
      simp only [execOp, ho, Instr.makeInterface, Sem.run_bind, run_underlying hne]
      cases d <;> first | rfl | exact (hd _ rfl).elim
    · cases h
  · rename_i x ho
    split at h
    · rename_i i k hv; cases h
      obtain ⟨p, hp, he⟩ := r.ev hv
      exact ⟨_, fun w => by simp [execOp, ho, he], p, hp, rfl⟩
    · rename_i f l m hv; cases h
      obtain ⟨p, q, he, h1, h2⟩ := r.ev hv
      exact ⟨_, fun w => by simp [execOp, ho, he], p, q, rfl, h1, h2⟩
    · cases h
  · rename_i x tx t ok ho
    split at h
    · cases h
    · rename_i u v d hd hv hne
      cases hb : Nat.beq u t with
      | false => rw [hb] at h; cases h
      | true =>
        rw [hb] at h
        simp only [cond_true, Option.some.injEq] at h
        obtain rfl := Nat.eq_of_beq_eq_true hb
        obtain ⟨y, he, hy⟩ := r.ev hv
        subst h
        cases ok
        · refine ⟨y, fun w => ?_, hy⟩
          simp only [execOp, ho, Instr.typeAssert, Sem.run_bind, run_underlying hne, he]
          cases d <;> first | (simp; done) | exact (hd _ rfl).elim
        · refine ⟨.tuple #[y, .bool true], fun w => ?_, _, rfl, y, _, rfl, hy, _, _, rfl, rfl, rfl⟩
          simp only [execOp, ho, Instr.typeAssert, Sem.run_bind, run_underlying hne, he]
          cases d <;> first | (simp; done) | exact (hd _ rfl).elim
    · cases h
  · cases h
/-! numbers, the short way -/
def kindB : IntKind → IntKind → Bool
  | .i64, .i64 => true | .u64, .u64 => true | .i32, .i32 => true | .u32, .u32 => true | .u16, .u16 => true | .u8, .u8 => true | _, _ => false
theorem kindB_eq {a b : IntKind} (h : kindB a b = true) : a = b := by cases a <;> cases b <;> simp [kindB] at h <;> rfl
def wide63 : IntKind → Bool | .i64 => true | .u64 => true | _ => false
def num63 (k : IntKind) (m : Nat) : Option AV := bif wide63 k && Nat.blt m 9223372036854775808 then some (.sc (.int k (.ofNat m))) else none
noncomputable def intX (env : Tri AV) : Op → Option AV
  | .binOp op _ x y _ => (match evA env x, evA env y with
    | some (.sc (.int k (.ofNat a))), some (.sc (.int k' (.ofNat b))) => bif kindB k k' then (match op with
      | .add => num63 k (Nat.add a b)
      | .sub => bif Nat.ble b a then num63 k (Nat.sub a b) else none
      | .mul => num63 k (Nat.mul a b)
      | .eql => some (.sc (.bool (Nat.beq a b)))
      | .neq => some (.sc (.bool (!(Nat.beq a b))))
      | .lss => some (.sc (.bool (Nat.blt a b)))
      | .leq => some (.sc (.bool (Nat.ble a b)))
      | .gtr => some (.sc (.bool (Nat.blt b a)))
      | .geq => some (.sc (.bool (Nat.ble b a)))
      | _ => none) else none
    | _, _ => none)
  | _ => none
end
end Go.Proofs.YtaacfehlcdkdhaaGreatDoor.R
namespace Go.Proofs.YtaacfehlcdkdhaaGreatDoor.R
open Go
set_option linter.unusedVariables false
set_option linter.unusedSimpArgs false
open V (pureRun pureRun_run isScalar aggOf run_isAgg_scalar run_isAgg_agg eqV run_eqV partV run_part str_cat str_size add_lit' callOk)

/-- a natural number -/
def natI : AV → Option Nat | .sc (.int _ (.ofNat m)) => some m | _ => none
theorem natI_ok {ρ : Ren} {v : AV} {m : Nat} {x : Value} (h : natI v = some m) (hv : VR ρ v x) : ∃ k, x = .int k (m : Int) := by
  unfold natI at h
  split at h
  · cases h; cases hv; exact ⟨_, rfl⟩
  · cases h
noncomputable def natE (env : Tri AV) (x : Operand) : Option Nat := match evA env x with | some v => natI v | none => none
noncomputable def bndA (env : Tri AV) (d : Nat) : Option Operand → Option Nat
  | none => some d
  | some x => natE env x
def cellsA : AV → List AV
  | .agg l => l
  | .sc (.agg a) => a.toList.map ofC1
  | v => [v]
theorem cellsA_ok {ρ : Ren} {v : AV} {x : Value} (h : VR ρ v x) : VRL ρ (cellsA v) x.cells.toList := by
  unfold cellsA
  split
  · obtain ⟨a, rfl, hl⟩ := h; exact hl
  · cases h; exact VRL_ofC1 ρ _
  · rename_i h1 h2
    have hx : x.cells = #[x] := by
      cases x <;> first | rfl | (cases v <;> first | (cases h; exact (h2 _ rfl).elim) | exact (h1 _ rfl).elim | (simp [VR] at h))
    rw [hx]; exact ⟨x, [], rfl, h, rfl⟩
def zeroA (T : Tab) (t : TypeId) : Option (List AV) := match T.i t with | some i => (match i.zero with | some z => some (cellsA (ofC z)) | none => none) | none => none
theorem zeroA_ok {P : Program} {t : TypeId} {l : List AV} (h : zeroA (natTab P) t = some l) : ∃ z, (∀ w, (zeroValue t).run P w = .ok z w) ∧ ∀ ρ, VRL ρ l z.cells.toList := by
  unfold zeroA at h
  try simp only [nat_u, nat_i, nat_f, nat_agg, nat_sc, nat_call, nat_P] at h
  split at h
  · rename_i i hi
    split at h
    · rename_i z hz; cases h
      exact ⟨z, fun w => by simp [zeroValue, typeInfo, hi, hz], fun ρ => cellsA_ok (VR_ofC ρ z)⟩
    · cases h
  · cases h
def partA (T : Tab) (t : TypeId) (l : List AV) (off : Nat) : Option AV :=
  match aggT T t with
  | some k => bif Nat.ble (Nat.add off k) l.length then some (.agg ((l.drop off).take k)) else none
  | none => bif scT T t then l[off]? else none
theorem partA_ok {P : Program} {ρ : Ren} {t : TypeId} {l : List AV} {off : Nat} {v : AV} {c : Array Value} (h : partA (natTab P) t l off = some v) (hl : VRL ρ l c.toList) :
    ∃ x, (∀ w, (part t c off).run P w = .ok x w) ∧ VR ρ v x := by
  unfold partA at h
  try simp only [nat_u, nat_i, nat_f, nat_agg, nat_sc, nat_call, nat_P] at h
  split at h
  · rename_i k hk
    cases hb : Nat.ble (Nat.add off k) l.length with
    | false => rw [hb] at h; cases h
    | true =>
      rw [hb] at h; cases h
      refine ⟨_, fun w => run_part w (by unfold partV; rw [hk]), _, rfl, ?_⟩
      have := (hl.drop off).take k
      rw [Array.toList_extract, List.extract_eq_take_drop]
      rw [show off + k - off = k by omega]
      exact this
  · rename_i hk
    cases hs : isScalar P t with
    | false => rw [hs] at h; cases h
    | true =>
      rw [hs] at h
      obtain ⟨x, hx, hv⟩ := hl.get h
      exact ⟨x, fun w => run_part w (by unfold partV; rw [hk]; simp [hs]; rw [← Array.getElem?_toList]; exact hx), hv⟩

section
variable {P : Program} {n : Nat} {ρ : Ren} {env : Tri AV} {a : Act} {o : Oper}
theorem natE_ok {x : Operand} {m : Nat} (r : ER n ρ env a) (h : natE env x = some m) : ∃ k, a.eval x = .int k (m : Int) := by
  unfold natE at h
  split at h
  · rename_i v hv; exact natI_ok h (r.ev hv)
  · cases h
theorem bounds_run {lo hi : Option Operand} {len cap l h : Nat} (r : ER n ρ env a) (isS : Bool) (hl : bndA env 0 lo = some l) (hh : bndA env len hi = some h) (h1 : l ≤ h) (h2 : h ≤ cap) (w : World) :
    (Instr.sliceBounds isS len cap (lo.map a.eval) (hi.map a.eval) none).run P w = .ok (l, h, cap) w := by
  cases lo with
  | none =>
    simp only [bndA, Option.some.injEq] at hl; subst hl
    cases hi with
    | none => simp only [bndA, Option.some.injEq] at hh; subst hh; simp [Instr.sliceBounds]
    | some v =>
      obtain ⟨k, e⟩ := natE_ok r hh
      simp [Instr.sliceBounds, Instr.sliceBound, e, asIntOf, h2]
  | some u =>
    obtain ⟨k', e'⟩ := natE_ok r hl
    cases hi with
    | none => simp only [bndA, Option.some.injEq] at hh; subst hh; simp [Instr.sliceBounds, Instr.sliceBound, e', asIntOf, h1]
    | some v =>
      obtain ⟨k, e⟩ := natE_ok r hh
      simp [Instr.sliceBounds, Instr.sliceBound, e, e', asIntOf, h2, h1]
/-- where a slicing begins -/
def beg (c l k sz : Nat) : Nat := bif Nat.beq c l then k else Nat.add k (Nat.mul l sz)
theorem beg_ok (b q c l k sz : Nat) : (if c = l then (⟨b, q + k, none⟩ : Addr) else (⟨b, q + k, none⟩ : Addr).add (l * sz)) = ⟨b, q + beg c l k sz, none⟩ := by
  unfold beg
  by_cases h : c = l
  · subst h; simp
  · have : Nat.beq c l = false := by cases hb : Nat.beq c l with | true => exact absurd (Nat.eq_of_beq_eq_true hb) h | false => rfl
    rw [if_neg h, this, add_lit', Nat.add_assoc]; rfl
def sizeA (T : Tab) (t : TypeId) : Option Nat := match T.i t with | some i => some i.size | none => none
theorem sizeA_run {t : TypeId} {k : Nat} (h : sizeA (natTab P) t = some k) (w : World) : (sizeOf t).run P w = .ok k w := by
  unfold sizeA at h
  try simp only [nat_u, nat_i, nat_f, nat_agg, nat_sc, nat_call, nat_P] at h
  split at h
  · rename_i i hi; cases h; simp [sizeOf, typeInfo, hi]
  · cases h
def le3 (l h c : Nat) : Bool := Nat.ble l h && Nat.ble h c
theorem le3_ok {l h c : Nat} (e : le3 l h c = true) : l ≤ h ∧ h ≤ c := by
  simp only [le3, Bool.and_eq_true] at e; exact ⟨Nat.le_of_ble_eq_true e.1, Nat.le_of_ble_eq_true e.2⟩
noncomputable def sliceA (T : Tab) (env : Tri AV) (t : TypeId) (x : AV) (lo hi : Option Operand) : Option AV :=
  match x, T.u t with
  | .str s, some .string => (match bndA env 0 lo, bndA env s.length hi with
    | some l, some h => bif le3 l h s.length then some (.str ((s.take h).drop l)) else none
    | _, _ => none)
  | .sl i k m c, some (.slice el) => (match bndA env 0 lo, bndA env m hi, sizeA T el with
    | some l, some h, some sz => bif le3 l h c then some (.sl i (beg c l k sz) (Nat.sub h l) (Nat.sub c l)) else none
    | _, _, _ => none)
  | .so i k m c, some (.slice el) => (match bndA env 0 lo, bndA env m hi, sizeA T el with
    | some l, some h, some sz => bif le3 l h m && Nat.blt l m then some (.so i (Nat.add k (Nat.mul l sz)) (Nat.sub h l) (Nat.add c l)) else none
    | _, _, _ => none)
  | .ptr i k, some (.array m el) => (match bndA env 0 lo, bndA env m hi, sizeA T el with
    | some l, some h, some sz => bif le3 l h m then some (.sl i (beg m l k sz) (Nat.sub h l) (Nat.sub m l)) else none
    | _, _, _ => none)
  | _, _ => none
theorem sliceA_ok {t : TypeId} {x : Operand} {lo hi : Option Operand} {u v : AV} (r : ER n ρ env a) (hx : evA env x = some u) (h : sliceA (natTab P) env t u lo hi = some v) :
    ∃ y, (∀ w, (Instr.sliceAt t (a.eval x) (lo.map a.eval) (hi.map a.eval) none).run P w = .ok y w) ∧ VR ρ v y := by
  have hv := r.ev hx
  unfold sliceA at h
  try simp only [nat_u, nat_i, nat_f, nat_agg, nat_sc, nat_call, nat_P] at h
  split at h
  · rename_i s ht
    split at h
    · rename_i l m hl hm
      cases hb : le3 l m s.length with
      | false => rw [hb] at h; cases h
      | true =>
        rw [hb] at h; cases h
        obtain ⟨h1, h2⟩ := le3_ok hb
        have e : a.eval x = .string ⟨s.toArray⟩ := hv
        refine ⟨.string ⟨((s.take m).drop l).toArray⟩, fun w => ?_, rfl⟩
        have hsz : (⟨s.toArray⟩ : ByteArray).size = s.length := rfl
        have hbd := bounds_run (P := P) r false hl hm h1 h2 w
        have hex : (⟨s.toArray⟩ : ByteArray).extract l m = ⟨((s.take m).drop l).toArray⟩ := by
          apply ByteArray.ext; apply Array.ext'
          rw [Go.Lib.extract_data, List.drop_take]
        simp [Instr.sliceAt, Instr.slice, run_underlying ht, e, hsz, hbd, hex]
    · cases h
  · rename_i i k m c el ht
    split at h
    · rename_i l q sz hl hq hs
      cases hb : le3 l q c with
      | false => rw [hb] at h; cases h
      | true =>
        rw [hb] at h; cases h
        obtain ⟨h1, h2⟩ := le3_ok hb
        obtain ⟨p, hp, e⟩ := hv
        refine ⟨_, fun w => ?_, p, hp, rfl⟩
        have hbd := bounds_run (P := P) r true hl hq h1 h2 w
        simp [Instr.sliceAt, Instr.slice, run_underlying ht, e, hbd, sizeA_run hs]
        rw [← beg_ok]; split <;> rfl
    · cases h
  · rename_i i k m c el ht
    split at h
    · rename_i l q sz hl hq hs
      cases hb : le3 l q m && Nat.blt l m with
      | false => rw [hb] at h; cases h
      | true =>
        rw [hb] at h; cases h
        simp only [Bool.and_eq_true] at hb
        obtain ⟨h1, h2⟩ := le3_ok hb.1
        have h3 : l < m := Nat.le_of_ble_eq_true hb.2
        obtain ⟨p, hp, hm, e⟩ := hv
        have e1 : p.k - (c + l) = p.k - c - l := by omega
        refine ⟨_, fun w => ?_, p, hp, ?_, rfl⟩
        · have hbd := bounds_run (P := P) r true hl hq h1 (Nat.le_trans h2 hm) w
          have hne : ¬ p.k - c = l := by omega
          simp [Instr.sliceAt, Instr.slice, run_underlying ht, e, hbd, sizeA_run hs, hne, add_lit', Nat.add_assoc]
          exact e1.symm
        · show q - l ≤ p.k - (c + l); omega
    · cases h
  · rename_i i k m el ht
    split at h
    · rename_i l q sz hl hq hs
      cases hb : le3 l q m with
      | false => rw [hb] at h; cases h
      | true =>
        rw [hb] at h; cases h
        obtain ⟨h1, h2⟩ := le3_ok hb
        obtain ⟨p, hp, e⟩ := hv
        refine ⟨_, fun w => ?_, p, hp, rfl⟩
        have hbd := bounds_run (P := P) r false hl hq h1 h2 w
        simp [Instr.sliceAt, Instr.sureAddr, run_underlying ht, e, hbd, sizeA_run hs]
        rw [← beg_ok]; done
    · cases h
  · cases h
noncomputable def placeX (T : Tab) (env : Tri AV) : Op → Option AV
  | .field t x f => (match evA env x, T.u t with
    | some (.agg l), some (.struct fs) => (match fs[f]? with | some fd => partA T fd.type l fd.offset | none => none)
    | _, _ => none)
  | .fieldAddr t x f => (match evA env x, T.u t with
    | some (.ptr i k), some (.struct fs) => (match fs[f]? with
      | some fd => (match sizeA T fd.type with | some (_ + 1) => some (.ptr i (Nat.add k fd.offset)) | _ => none)
      | none => none)
    | _, _ => none)
  | .indexAddr t x y => (match evA env x, natE env y, T.u t with
    | some (.sl i k m _), some e, some (.slice el) => (match sizeA T el with | some sz => bif Nat.blt e m then some (.ptr i (Nat.add k (Nat.mul e sz))) else none | none => none)
    | some (.so i k m _), some e, some (.slice el) => (match sizeA T el with | some sz => bif Nat.blt e m then some (.ptr i (Nat.add k (Nat.mul e sz))) else none | none => none)
    | some (.ptr i k), some e, some (.array m el) => (match sizeA T el with | some sz => bif Nat.blt e m then some (.ptr i (Nat.add k (Nat.mul e sz))) else none | none => none)
    | _, _, _ => none)
  | .index t x y => (match evA env x, natE env y, T.u t with
    | some (.agg l), some e, some (.array m el) => (match sizeA T el with | some sz => bif Nat.blt e m then partA T el l (Nat.mul e sz) else none | none => none)
    | some (.str l), some e, some .string => (match l[e]? with | some b => some (.sc (.int .u8 (.ofNat b.toNat))) | none => none)
    | _, _, _ => none)
  | .slice t x lo hi none => (match evA env x with | some u => sliceA T env t u lo hi | none => none)
  | .call { callee := .builtin .len, args := args, argTypes := ats } => (match args.toList with
    | [x] => (match evA env x, ats[0]? with
      | some (.str l), some t => (match T.u t with | some .string => some (.sc (.int .i64 (.ofNat l.length))) | _ => none)
      | some (.sl _ _ m _), some t => (match T.u t with | some (.slice _) => some (.sc (.int .i64 (.ofNat m))) | _ => none)
      | some (.so _ _ m _), some t => (match T.u t with | some (.slice _) => some (.sc (.int .i64 (.ofNat m))) | _ => none)
      | _, _ => none)
    | _ => none)
  | .call { callee := .builtin .cap, args := args, argTypes := ats } => (match args.toList with
    | [x] => (match evA env x, ats[0]? with
      | some (.sl _ _ _ c), some t => (match T.u t with | some (.slice _) => some (.sc (.int .i64 (.ofNat c))) | _ => none)
      | _, _ => none)
    | _ => none)
  | _ => none
theorem placeX_ok {v : AV} (r : ER n ρ env a) (h : placeX (natTab P) env o.op = some v) : Gives P ρ a o v := by
  unfold placeX at h
  try simp only [nat_u, nat_i, nat_f, nat_agg, nat_sc, nat_call, nat_P] at h
  split at h
  · rename_i t x f ho
    split at h
    · rename_i l fs hx ht
      split at h
      · rename_i fd hf
        obtain ⟨c, e, hl⟩ := r.ev hx
        obtain ⟨y, h1, h2⟩ := partA_ok h hl
        exact ⟨y, fun w => by simp [execOp, ho, Instr.field, run_underlying ht, hf, e, asAgg, h1], h2⟩
      · cases h
    · cases h
  · rename_i t x f ho
    split at h
    · rename_i i k fs hx ht
      split at h
      · rename_i fd hf
        split at h
        · rename_i q hs; cases h
          obtain ⟨p, hp, e⟩ := r.ev hx
          refine ⟨_, fun w => ?_, p, hp, rfl⟩
          simp [execOp, ho, Instr.fieldAt, run_underlying ht, hf, e, Instr.sureAddr, fieldPlace, sizeA_run hs, add_lit', Nat.add_assoc]
        · cases h
      · cases h
    · cases h
  · rename_i t x y ho
    split at h
    · rename_i i k m c e el hx hy ht
      split at h
      · rename_i sz hs
        cases hb : Nat.blt e m with
        | false => rw [hb] at h; cases h
        | true =>
          rw [hb] at h; cases h
          have hlt : e < m := Nat.le_of_ble_eq_true hb
          obtain ⟨p, hp, e1⟩ := r.ev hx
          obtain ⟨kk, e2⟩ := natE_ok r hy
          refine ⟨_, fun w => ?_, p, hp, rfl⟩
          simp [execOp, ho, Instr.indexAt, e1, e2, asIntOf, run_underlying ht, hlt, sizeA_run hs, add_lit', Nat.add_assoc]
      · cases h
    · rename_i i k m c e el hx hy ht
      split at h
      · rename_i sz hs
        cases hb : Nat.blt e m with
        | false => rw [hb] at h; cases h
        | true =>
          rw [hb] at h; cases h
          have hlt : e < m := Nat.le_of_ble_eq_true hb
          obtain ⟨p, hp, _, e1⟩ := r.ev hx
          obtain ⟨kk, e2⟩ := natE_ok r hy
          refine ⟨_, fun w => ?_, p, hp, rfl⟩
          simp [execOp, ho, Instr.indexAt, e1, e2, asIntOf, run_underlying ht, hlt, sizeA_run hs, add_lit', Nat.add_assoc]
      · cases h
    · rename_i i k e m el hx hy ht
      split at h
      · rename_i sz hs
        cases hb : Nat.blt e m with
        | false => rw [hb] at h; cases h
        | true =>
          rw [hb] at h; cases h
          have hlt : e < m := Nat.le_of_ble_eq_true hb
          obtain ⟨p, hp, e1⟩ := r.ev hx
          obtain ⟨kk, e2⟩ := natE_ok r hy
          refine ⟨_, fun w => ?_, p, hp, rfl⟩
          simp [execOp, ho, Instr.indexAt, e1, e2, asIntOf, Instr.sureAddr, run_underlying ht, hlt, sizeA_run hs, add_lit', Nat.add_assoc]
      · cases h
    · cases h
  · rename_i t x y ho
    split at h
    · rename_i l e m el hx hy ht
      split at h
      · rename_i sz hs
        cases hb : Nat.blt e m with
        | false => rw [hb] at h; cases h
        | true =>
          rw [hb] at h
          have hlt : e < m := Nat.le_of_ble_eq_true hb
          obtain ⟨c, e1, hl⟩ := r.ev hx
          obtain ⟨kk, e2⟩ := natE_ok r hy
          obtain ⟨y', h1, h2⟩ := partA_ok h hl
          refine ⟨y', fun w => ?_, h2⟩
          have h1 : ∀ w, (part el c (e * sz)).run P w = .ok y' w := h1
          simp [execOp, ho, Instr.index, e1, e2, asIntOf, run_underlying ht, hlt, sizeA_run hs, h1]
      · cases h
    · rename_i l e hx hy ht
      split at h
      · rename_i b hb; cases h
        have e1 : a.eval x = .string ⟨l.toArray⟩ := r.ev hx
        obtain ⟨kk, e2⟩ := natE_ok r hy
        refine ⟨_, fun w => ?_, rfl⟩
        have hs : (⟨l.toArray⟩ : ByteArray)[e]? = some b := by
          obtain ⟨hlt, hg⟩ := List.getElem?_eq_some_iff.1 hb
          have hlt' : e < (⟨l.toArray⟩ : ByteArray).size := hlt
          rw [getElem?_pos _ e hlt']; congr 1
        simp [execOp, ho, Instr.index, e1, e2, asIntOf, run_underlying ht, hs]
      · cases h
    · cases h
  · rename_i t x lo hi ho
    split at h
    · rename_i u hx
      obtain ⟨y, h1, h2⟩ := sliceA_ok r hx h
      exact ⟨y, fun w => by simp [execOp, ho, h1], h2⟩
    · cases h
  · rename_i args ats ho
    split at h
    · rename_i x hargs
      have ha : args = #[x] := by apply Array.ext'; simpa using hargs
      subst ha
      split at h
      · rename_i l t hx ht
        split at h
        · rename_i hu; cases h
          have e1 : a.eval x = .string ⟨l.toArray⟩ := r.ev hx
          refine ⟨_, fun w => ?_, rfl⟩
          have hsz : (⟨l.toArray⟩ : ByteArray).size = l.length := rfl
          simp [execOp, ho, resolve, invoke, builtin, Builtin.len_, e1, ht, run_underlying hu, goInt, hsz]
        · cases h
      · rename_i i k m c t hx ht
        split at h
        · rename_i el hu; cases h
          obtain ⟨p, hp, e1⟩ := r.ev hx
          refine ⟨_, fun w => ?_, rfl⟩
          simp [execOp, ho, resolve, invoke, builtin, Builtin.len_, e1, ht, run_underlying hu, goInt]
        · cases h
      · rename_i i k m c t hx ht
        split at h
        · rename_i el hu; cases h
          obtain ⟨p, hp, _, e1⟩ := r.ev hx
          refine ⟨_, fun w => ?_, rfl⟩
          simp [execOp, ho, resolve, invoke, builtin, Builtin.len_, e1, ht, run_underlying hu, goInt]
        · cases h
      · cases h
    · cases h
  · rename_i args ats ho
    split at h
    · rename_i x hargs
      have ha : args = #[x] := by apply Array.ext'; simpa using hargs
      subst ha
      split at h
      · rename_i i k m c t hx ht
        split at h
        · rename_i el hu; cases h
          obtain ⟨p, hp, e1⟩ := r.ev hx
          refine ⟨_, fun w => ?_, rfl⟩
          simp [execOp, ho, resolve, invoke, builtin, Builtin.cap_, e1, ht, run_underlying hu, goInt]
        · cases h
      · cases h
    · cases h
  · cases h
end
end Go.Proofs.YtaacfehlcdkdhaaGreatDoor.R
namespace Go.Proofs.YtaacfehlcdkdhaaGreatDoor.R
open Go
set_option linter.unusedVariables false
set_option linter.unusedSimpArgs false
open V (pureRun pureRun_run isScalar aggOf run_isAgg_scalar run_isAgg_agg run_load_scalar run_load_agg eqV run_eqV partV run_part str_cat str_size add_lit' callOk setRow_at made_cells flat)

/-- what is given ahead of a step -/
structure Pre (M : Nat → Prop) (ρ : Ren) (s s' : HS) (w : World) : Prop where
  rel : Rel M ρ s.h w
  cov : ∀ i, i < s.c → mem i s'.R → M i
  fre : ∀ i, new s s' i → ρ i = none
noncomputable def newB (s : HS) (o : AO) : Option HS := match s.h.put s.c (some o) with | some t => some ⟨t, Nat.succ s.c, bit s.R s.c, bit s.W s.c⟩ | none => none
theorem newB_ok {s s' : HS} {o : AO} (h : newB s o = some s') : Ab s s' ∧ ∀ {M : Nat → Prop} {ρ : Ren} {w w' : World} {x : Obj} (k : Nat), Pre M ρ s s' w → OR ρ ⟨w.heap.size, k, 0⟩ o x → w'.heap = w.heap.push x → w'.os = w.os → w'.tape = w.tape → w'.output = w.output →
    Tr M ρ (xr ρ s.c ⟨w.heap.size, k, 0⟩) s s' w w' ∧ ρ s.c = none := by
  unfold newB at h
  split at h
  · rename_i t ht; cases h
    refine ⟨Ab.made ht, fun {M ρ w w' x} k p ho h1 h2 h3 h4 => ?_⟩
    have hn : ρ s.c = none := p.fre s.c ⟨Nat.le_refl _, Nat.lt_succ_self _⟩
    exact ⟨Tr.made p.rel hn ht h1 ho h2 h3 h4, hn⟩
  · cases h
noncomputable def readB (s : HS) (i : Nat) : Option (AO × HS) := bif Nat.blt i s.c then (match s.h.get i with | some o => some (o, ⟨s.h, s.c, bit s.R i, s.W⟩) | none => none) else none
theorem readB_ok {s s' : HS} {i : Nat} {o : AO} (h : readB s i = some (o, s')) : Ab s s' ∧ s'.h = s.h ∧ s'.c = s.c ∧ s.h.get i = some o ∧ i < s.c ∧ mem i s'.R ∧ ∀ {M : Nat → Prop} {ρ : Ren} {w : World}, Rel M ρ s.h w → M i →
    ∃ p x, ρ i = some p ∧ w.heap[p.b]? = some x ∧ OR ρ p o x := by
  unfold readB at h
  cases hb : Nat.blt i s.c with
  | false => rw [hb] at h; cases h
  | true =>
    rw [hb] at h
    simp only [cond_true] at h
    split at h
    · rename_i o' ho; cases h
      exact ⟨Ab.look s i, rfl, rfl, ho, Nat.le_of_ble_eq_true hb, mem_bit.2 (.inr rfl), fun r hM => r.at_ i _ hM ho⟩
    · cases h
noncomputable def writeB (s : HS) (i : Nat) (o : AO) : Option HS := bif Nat.blt i s.c then (match s.h.get i with | some _ => (match s.h.put i (some o) with | some t => some ⟨t, s.c, bit s.R i, bit s.W i⟩ | none => none) | none => none) else none
theorem writeB_ok {s s' : HS} {i : Nat} {o' : AO} (h : writeB s i o' = some s') : Ab s s' ∧ i < s.c ∧ mem i s'.R ∧ s'.c = s.c ∧ ∀ {M : Nat → Prop} {ρ : Ren} {w w' : World} {p : Bl} {x : Obj}, Rel M ρ s.h w → M i → ρ i = some p → w'.heap[p.b]? = some x → OR ρ p o' x →
    w'.heap.size = w.heap.size → (∀ b, b ≠ p.b → w'.heap[b]? = w.heap[b]?) → w'.os = w.os → w'.tape = w.tape → w'.output = w.output → Tr M ρ ρ s s' w w' := by
  unfold writeB at h
  cases hb : Nat.blt i s.c with
  | false => rw [hb] at h; cases h
  | true =>
    rw [hb] at h
    simp only [cond_true] at h
    split at h
    · rename_i o ho
      split at h
      · rename_i t ht; cases h
        have hi : i < s.c := Nat.le_of_ble_eq_true hb
        exact ⟨Ab.write ho ht, hi, mem_bit.2 (.inr rfl), rfl, fun r hM hp hx ho' h1 h2 h3 h4 h5 => Tr.write r hM hi ho ht hp hx ho' h1 h2 h3 h4 h5⟩
      · cases h
    · cases h
/-- the cells that are known -/
def rowC : AO → Option (List AV) | .row cs _ => some cs | .orow cs _ _ => some cs | _ => none
def rowS : AO → List AV → AO | .row _ t, l => .row l t | .orow _ t z, l => .orow l t z | o, _ => o
theorem rowC_ok {ρ : Ren} {q : Bl} {o : AO} {x : Obj} {cs : List AV} (h : rowC o = some cs) (ho : OR ρ q o x) : ∃ (a : Array Value) (t : TypeId) (l0 l1 l2 : List Value), x = .cells a t (0, 0) ∧ a.toList = l0 ++ (l1 ++ l2) ∧ l0.length = q.o ∧ VRL ρ cs l1 ∧
    ∀ cs' l1', VRL ρ cs' l1' → cs'.length = cs.length → OR ρ q (rowS o cs') (.cells (l0 ++ (l1' ++ l2)).toArray t (0, 0)) := by
  unfold rowC at h
  split at h
  · rename_i c t; cases h
    obtain ⟨h0, a, hx, hl⟩ := ho
    exact ⟨a, t, [], a.toList, [], hx, by simp, by simp [h0], hl, fun cs' l1' h1 _ => ⟨h0, _, rfl, by simpa using h1⟩⟩
  · rename_i c t z; cases h
    obtain ⟨a, l0, l1, l2, hx, ha, h0, hl, hs, hs2⟩ := ho
    refine ⟨a, t, l0, l1, l2, hx, ha, h0, hl, fun cs' l1' h1 h2 => ⟨_, l0, l1', l2, rfl, by simp, h0, h1, ?_, by rw [h2]; exact hs2⟩⟩
    have e1 := h1.len; have e2 := hl.len
    have : a.size = (l0 ++ (l1 ++ l2)).length := by rw [← ha]; simp
    simp only [List.length_append] at this
    simp only [List.size_toArray, List.length_append]; omega
  · cases h
theorem mid_take {α : Type} {l0 l1 l2 : List α} {k : Nat} (h : k ≤ l1.length) : (l0 ++ (l1 ++ l2)).take (l0.length + k) = l0 ++ l1.take k := by
  rw [List.take_length_add_append, List.take_append_of_le_length h]
theorem mid_drop {α : Type} {l0 l1 l2 : List α} {k : Nat} (h : k ≤ l1.length) : (l0 ++ (l1 ++ l2)).drop (l0.length + k) = l1.drop k ++ l2 := by
  rw [List.drop_length_add_append, List.drop_append_of_le_length h]
theorem mid_cell {a : Array Value} {ty : TypeId} {l0 l1 l2 : List Value} {w : World} {b : Nat} (ha : a.toList = l0 ++ (l1 ++ l2)) (hw : w.heap[b]? = some (.cells a ty (0, 0))) {j : Nat} {u : Value} (hu : l1[j]? = some u) : w.cell? ⟨b, l0.length + j, none⟩ = some u := by
  rw [cell_of_row w b (l0.length + j) a ty (0, 0) hw, ← Array.getElem?_toList, ha, List.getElem?_append_right (by omega), Nat.add_sub_cancel_left, List.getElem?_append_left (List.getElem?_eq_some_iff.1 hu).1]; exact hu
theorem load_ok {P : Program} {ρ : Ren} {t ty : TypeId} {cs : List AV} {k : Nat} {v : AV} {a : Array Value} {l0 l1 l2 : List Value} {w : World} {b : Nat} (h : partA (natTab P) t cs k = some v) (hl : VRL ρ cs l1) (ha : a.toList = l0 ++ (l1 ++ l2)) (hw : w.heap[b]? = some (.cells a ty (0, 0))) :
    ∃ x, (loadVar t ⟨b, l0.length + k, none⟩).run P w = .ok x w ∧ VR ρ v x := by
  have hc : ∀ j u, l1[j]? = some u → w.cell? ⟨b, l0.length + j, none⟩ = some u := fun j u hu => mid_cell ha hw hu
  unfold partA at h
  try simp only [nat_u, nat_i, nat_f, nat_agg, nat_sc, nat_call, nat_P] at h
  split at h
  · rename_i m hm
    cases hb : Nat.ble (Nat.add k m) cs.length with
    | false => rw [hb] at h; cases h
    | true =>
      rw [hb] at h; cases h
      have hle : k + m ≤ cs.length := Nat.le_of_ble_eq_true hb
      have hlen := hl.len
      have hvl : ((l1.drop k).take m).length = m := by simp; omega
      refine ⟨.agg ((l1.drop k).take m).toArray, run_load_agg (by rw [hm, hvl]) (fun j u hu => ?_), _, rfl, (hl.drop k).take m⟩
      rw [add_lit', Nat.add_assoc]
      refine hc _ _ ?_
      rw [List.getElem?_take] at hu
      split at hu
      · rwa [List.getElem?_drop] at hu
      · cases hu
  · cases hs : isScalar P t with
    | false => rw [hs] at h; cases h
    | true =>
      rw [hs] at h
      obtain ⟨x, hx, hv⟩ := hl.get h
      exact ⟨x, run_load_scalar hs (hc _ _ hx), hv⟩
def cellOk : AV → Bool | .agg _ => false | .tup _ => false | .sc v => v.oneCell' | _ => true
theorem cellOk_ok {ρ : Ren} {v : AV} {x : Value} (h : cellOk v = true) (hv : VR ρ v x) : x.oneCell' = true := by
  cases v with
  | sc u => cases hv; exact h
  | str l => cases hv; rfl
  | ptr i k => obtain ⟨p, _, rfl⟩ := hv; rfl
  | sl i k m c => obtain ⟨p, _, rfl⟩ := hv; rfl
  | so i k m c => obtain ⟨p, _, _, rfl⟩ := hv; rfl
  | mp i => obtain ⟨p, _, rfl⟩ := hv; rfl
  | fn f l m => obtain ⟨p, q, rfl, _⟩ := hv; rfl
  | ifc t u => obtain ⟨p, rfl, _⟩ := hv; rfl
  | agg l => cases h
  | tup l => cases h
theorem cellsOk_ok {ρ : Ren} : ∀ {vs : List AV} {xs : List Value}, vs.all cellOk = true → VRL ρ vs xs → ∀ x ∈ xs, x.oneCell' = true
  | [], _, _, e, x, hx => by cases e; cases hx
  | v :: vs, _, h, ⟨y, ys, e, hv, hl⟩, x, hx => by
    subst e
    simp only [List.all_cons, Bool.and_eq_true] at h
    rcases List.mem_cons.1 hx with rfl | hx
    · exact cellOk_ok h.1 hv
    · exact cellsOk_ok h.2 hl x hx
/-- cells k, k + 1, .. are laid anew -/
def ovr : List AV → Nat → List AV → Option (List AV)
  | cs, 0, [] => some cs
  | c :: cs, 0, v :: vs => (match ovr cs 0 vs with | some r => some (v :: r) | none => none)
  | [], 0, _ :: _ => none
  | c :: cs, k + 1, vs => (match ovr cs k vs with | some r => some (c :: r) | none => none)
  | [], _ + 1, _ => none
theorem ovr_ok {ρ : Ren} : ∀ {cs : List AV} {k : Nat} {vs r : List AV} {l xs : List Value}, ovr cs k vs = some r → VRL ρ cs l → VRL ρ vs xs → VRL ρ r (l.take k ++ xs ++ l.drop (k + xs.length)) ∧ r.length = cs.length ∧ k + xs.length ≤ l.length
  | cs, 0, [], r, l, xs, h, hl, hv => by cases hv; cases cs <;> (simp only [ovr, Option.some.injEq] at h; subst h; exact ⟨by simpa using hl, rfl, by simp⟩)
  | c :: cs, 0, v :: vs, r, l, xs, h, ⟨y, ys, e1, h1, h2⟩, ⟨x, xs', e2, h3, h4⟩ => by
    subst e1; subst e2
    simp only [ovr] at h
    split at h
    · rename_i r' hr; cases h
      obtain ⟨k1, k2, k3⟩ := ovr_ok hr h2 h4
      refine ⟨⟨x, _, rfl, h3, ?_⟩, by simp [k2], by simp at k3 ⊢; omega⟩
      simpa using k1
    · cases h
  | [], 0, _ :: _, _, _, _, h, _, _ => by simp [ovr] at h
  | c :: cs, k + 1, vs, r, l, xs, h, ⟨y, ys, e1, h1, h2⟩, hv => by
    subst e1
    simp only [ovr] at h
    split at h
    · rename_i r' hr; cases h
      obtain ⟨k1, k2, k3⟩ := ovr_ok hr h2 hv
      refine ⟨⟨y, _, rfl, h1, ?_⟩, by simp [k2], by simp; omega⟩
      rw [show k + 1 + xs.length = (k + xs.length) + 1 by omega]
      simpa using k1
    · cases h
  | [], _ + 1, _, _, _, _, h, _, _ => by simp [ovr] at h
/-- a value, and what became of memory -/
def Val (P : Program) (a : Act) (o : Oper) (M : Nat → Prop) (ρ : Ren) (s s' : HS) (w : World) (v : AV) : Prop :=
  ∃ ρ' w' x, Tr M ρ ρ' s s' w w' ∧ ((execOp a.eval o).run P w = .ok (.value x) w' ∨ (execOp a.eval o).run P w = .ok .skip w' ∧ x = undef) ∧ VR ρ' v x
theorem Gives.val {P : Program} {a : Act} {o : Oper} {M : Nat → Prop} {ρ : Ren} {s : HS} {w : World} {v : AV} (h : Gives P ρ a o v) (r : Rel M ρ s.h w) : Val P a o M ρ s s w v :=
  let ⟨x, h1, h2⟩ := h; ⟨ρ, w, x, Tr.refl r, .inl (h1 w), h2⟩
theorem made_ok {ρ : Ren} {zs : List AV} {z : Array Value} (h : VRL ρ zs z.toList) : ∀ m : Nat, VRL ρ ((List.replicate m zs).flatten) (flat (fun _ => z.toList) (List.replicate m ()))
  | 0 => rfl
  | m + 1 => by
    simp only [List.replicate_succ, List.flatten_cons, flat, List.flatMap_cons]
    exact h.app (made_ok h m)
noncomputable def memX (T : Tab) (env : Tri AV) (s : HS) : Op → Option (AV × HS)
  | .alloc t => (match zeroA T t with | some cs => (match newB s (.row cs t) with | some s' => some (.ptr s.c 0, s') | none => none) | none => none)
  | .box t x => (match evA env x with | some v => (match newB s (.row (cellsA v) t) with | some s' => some (.ptr s.c 0, s') | none => none) | none => none)
  | .load t x => (match evA env x with
    | some (.ptr i k) => (match readB s i with
      | some (o, s') => (match rowC o with
        | some cs => (match partA T t cs k with | some v => some (v, s') | none => none)
        | none => none)
      | none => none)
    | _ => none)
  | .store t x y => (match evA env x, evA env y with
    | some (.ptr i k), some v => (match s.h.get i with
      | some o => (match rowC o, sizeA T t with
        | some cs, some sz => bif Nat.beq (cellsA v).length sz && (cellsA v).all cellOk then (match ovr cs k (cellsA v) with
          | some cs' => (match writeB s i (rowS o cs') with | some s' => some (.tup [], s') | none => none)
          | none => none) else none
        | _, _ => none)
      | none => none)
    | _, _ => none)
  | .makeMap _ none => (match newB s (.map [] 0) with | some s' => some (.mp s.c, s') | none => none)
  | .makeMap t (some x) => (match natE env x, T.u t with
    | some _, some (.map _ _) => (match newB s (.map [] 0) with | some s' => some (.mp s.c, s') | none => none)
    | _, _ => none)
  | .makeSlice t x y => (match natE env x, natE env y, T.u t with
    | some l, some c, some (.slice e) => (match T.i e, zeroA T e with
      | some i, some zs => bif Nat.ble l c && Nat.ble (Nat.mul i.bytes c) 281474976710656 && Nat.ble c 9223372036854775807 && Nat.beq zs.length i.size then (match newB s (.row (List.replicate c zs).flatten e) with | some s' => some (.sl s.c 0 l c, s') | none => none) else none
      | _, _ => none)
    | _, _, _ => none)
  | _ => none
section
variable {P : Program} {n : Nat} {env : Tri AV} {o : Oper}
theorem memX_ok {s s' : HS} {v : AV} (h : memX (natTab P) env s o.op = some (v, s')) : Ab s s' ∧ ∀ {M : Nat → Prop} {ρ : Ren} {a : Act} {w : World}, ER n ρ env a → Pre M ρ s s' w → Val P a o M ρ s s' w v := by
  unfold memX at h
  try simp only [nat_u, nat_i, nat_f, nat_agg, nat_sc, nat_call, nat_P] at h
  split at h
  · rename_i t ho
    split at h
    · rename_i cs hz
      split at h
      · rename_i s1 hs; cases h
        obtain ⟨ab, tr⟩ := newB_ok hs
        refine ⟨ab, fun {M ρ a w} r p => ?_⟩
        obtain ⟨z, hz1, hz2⟩ := zeroA_ok hz
        obtain ⟨t1, hn⟩ := tr (w' := w.alloc (.cells z.cells t)) 0 p ⟨rfl, _, rfl, hz2 ρ⟩ rfl rfl rfl rfl
        refine ⟨_, _, _, t1, .inl ?_, _, xr_self, rfl⟩
        simp [execOp, ho, Instr.alloc, hz1, newVar, newRow, newObj, Sem.run, World.alloc_eq]
      · cases h
    · cases h
  · rename_i t x ho
    split at h
    · rename_i u hx
      split at h
      · rename_i s1 hs; cases h
        obtain ⟨ab, tr⟩ := newB_ok hs
        refine ⟨ab, fun {M ρ a w} r p => ?_⟩
        obtain ⟨t1, hn⟩ := tr (w' := w.alloc (.cells (a.eval x).cells t)) 0 p ⟨rfl, _, rfl, cellsA_ok (r.ev hx)⟩ rfl rfl rfl rfl
        refine ⟨_, _, _, t1, .inl ?_, _, xr_self, rfl⟩
        simp [execOp, ho, Instr.box, newVar, newRow, newObj, Sem.run, World.alloc_eq]
      · cases h
    · cases h
  · rename_i t x ho
    split at h
    · rename_i i k hx
      split at h
      · rename_i ob s1 hr
        split at h
        · rename_i cs hc
          split at h
          · rename_i u hu; cases h
            obtain ⟨ab, hh, hcc, hg, hi, hm, hrd⟩ := readB_ok hr
            refine ⟨ab, fun {M ρ a w} r p => ?_⟩
            obtain ⟨q, y, hq, hy, hor⟩ := hrd p.rel (p.cov i hi hm)
            obtain ⟨a', ty, l0, l1, l2, rfl, ha, h0, hl, _⟩ := rowC_ok hc hor
            obtain ⟨z, hz, hv⟩ := load_ok hu hl ha hy
            obtain ⟨q', hq', he⟩ := r.ev hx
            rw [hq] at hq'; cases hq'
            refine ⟨ρ, w, z, Tr.look p.rel hh hcc rfl rfl rfl rfl, .inl ?_, hv⟩
            rw [h0] at hz
            simp [execOp, ho, Instr.loadAt, he, Instr.sureAddr, hz]
          · cases h
        · cases h
      · cases h
    · cases h
  · rename_i t x y ho
    split at h
    · rename_i i k u hx hy
      split at h
      · rename_i ob hg
        split at h
        · rename_i cs sz hc hsz
          cases hb : Nat.beq (cellsA u).length sz && (cellsA u).all cellOk with
          | false => rw [hb] at h; cases h
          | true =>
            rw [hb] at h
            simp only [cond_true] at h
            split at h
            · rename_i cs' hov
              split at h
              case h_2 => cases h
              rename_i s1 hs; cases h
              simp only [Bool.and_eq_true] at hb
              obtain ⟨b1, b2⟩ := hb
              have b1 := Nat.eq_of_beq_eq_true b1
              obtain ⟨ab, hi, hm, hcc, tr⟩ := writeB_ok hs
              refine ⟨ab, fun {M ρ a w} r p => ?_⟩
              have hM := p.cov i hi hm
              obtain ⟨q, ob', hq, hob, hor⟩ := p.rel.at_ i ob hM hg
              obtain ⟨a', ty, l0, l1, l2, rfl, ha, h0, hl, hset⟩ := rowC_ok hc hor
              obtain ⟨q', hq', he⟩ := r.ev hx
              rw [hq] at hq'; cases hq'
              have hcu := cellsA_ok (r.ev hy)
              have hlen := hcu.len
              obtain ⟨o1, o2, o3⟩ := ovr_ok hov hl hcu
              have hsz' : a'.size = l0.length + (l1.length + l2.length) := by rw [← List.length_append, ← List.length_append, ← ha, Array.length_toList]
              have hst := run_storeCells_at P q.b (q.o + k) ty (a.eval y).cells.toList 0 a' w hob (by omega) (cellsOk_ok b2 hcu)
              simp only [Nat.add_zero] at hst
              refine ⟨ρ, w.setRow q.b (a'.toList.take (q.o + k) ++ (a.eval y).cells.toList ++ a'.toList.drop (q.o + k + (a.eval y).cells.toList.length)).toArray, undef, tr p.rel hM hq (setRow_at w q.b _ _ ty hob) ?_ (by simp [World.setRow]) (fun b hb => ?_) rfl rfl rfl, .inr ⟨?_, rfl⟩, ?_⟩
              · have e : a'.toList.take (q.o + k) ++ (a.eval y).cells.toList ++ a'.toList.drop (q.o + k + (a.eval y).cells.toList.length) = l0 ++ ((l1.take k ++ (a.eval y).cells.toList ++ l1.drop (k + (a.eval y).cells.toList.length)) ++ l2) := by
                  rw [ha, ← h0, mid_take (by omega), Nat.add_assoc, mid_drop (by omega)]; simp
                rw [e]
                exact hset _ _ o1 o2
              · simp only [World.setRow, Array.getElem?_modify]; rw [if_neg fun e => hb e.symm]
              · have hcs : (a.eval y).cells.size = sz := by rw [← Array.length_toList]; omega
                simp only [execOp, ho, Instr.storeAt, he, Instr.sureAddr, storeVar, Sem.run_bind, Sem.run_pure, Result.andThen_ok, sizeA_run hsz, hcs]
                simp [hst]
              · exact ⟨_, rfl, rfl⟩
            · cases h
        · cases h
      · cases h
    · cases h
  · rename_i t ho
    split at h
    · rename_i s1 hs; cases h
      obtain ⟨ab, tr⟩ := newB_ok hs
      refine ⟨ab, fun {M ρ a w} r p => ?_⟩
      obtain ⟨t1, hn⟩ := tr (w' := w.alloc (.map #[] 0)) 0 p ⟨_, rfl, rfl⟩ rfl rfl rfl rfl
      refine ⟨_, _, _, t1, .inl ?_, _, xr_self, rfl⟩
      simp [execOp, ho, Instr.makeMap, newObj, Sem.run, World.alloc_eq]
    · cases h
  · rename_i t x ho
    split at h
    · rename_i m kt vt hm ht
      split at h
      · rename_i s1 hs; cases h
        obtain ⟨ab, tr⟩ := newB_ok hs
        refine ⟨ab, fun {M ρ a w} r p => ?_⟩
        obtain ⟨t1, hn⟩ := tr (w' := w.alloc (.map #[] 0)) 0 p ⟨_, rfl, rfl⟩ rfl rfl rfl rfl
        refine ⟨_, _, _, t1, .inl ?_, _, xr_self, rfl⟩
        obtain ⟨kk, e⟩ := natE_ok r hm
        simp [execOp, ho, Instr.makeMap, newObj, Sem.run, World.alloc_eq, run_underlying ht, e, asInt, asIntOf]
      · cases h
    · cases h
  · rename_i t x y ho
    split at h
    · rename_i l c e hl hc ht
      split at h
      · rename_i i zs hi hz
        cases hb : Nat.ble l c && Nat.ble (Nat.mul i.bytes c) 281474976710656 && Nat.ble c 9223372036854775807 && Nat.beq zs.length i.size with
        | false => rw [hb] at h; cases h
        | true =>
          rw [hb] at h
          simp only [cond_true] at h
          split at h
          · rename_i s1 hs; cases h
            simp only [Bool.and_eq_true] at hb
            obtain ⟨⟨⟨b1, b2⟩, b3⟩, b4⟩ := hb
            have b1 := Nat.le_of_ble_eq_true b1
            have b2 : i.bytes * c ≤ 281474976710656 := Nat.le_of_ble_eq_true b2
            have b3 := Nat.le_of_ble_eq_true b3
            have b4 := Nat.eq_of_beq_eq_true b4
            obtain ⟨ab, tr⟩ := newB_ok hs
            refine ⟨ab, fun {M ρ a w} r p => ?_⟩
            unfold zeroA at hz
            try simp only [nat_u, nat_i, nat_f, nat_agg, nat_sc, nat_call, nat_P] at hz
            rw [hi] at hz
            simp only at hz
            split at hz
            · rename_i z hzz; cases hz
              have hzl : VRL ρ (cellsA (ofC z)) z.cells.toList := cellsA_ok (VR_ofC ρ z)
              have hzs : z.cells.size = i.size := by rw [← b4, ← hzl.len, Array.length_toList]
              obtain ⟨k1, e1⟩ := natE_ok r hl
              obtain ⟨k2, e2⟩ := natE_ok r hc
              have hr := run_make (P := P) w t e i z ht hi hzz k1 k2 l c (by omega) (by omega) (by rw [← Int.natCast_mul]; omega) (by omega)
              simp only [Int.toNat_natCast] at hr
              rw [← hzs, made_cells] at hr
              obtain ⟨t1, hn⟩ := tr (w' := w.alloc (.cells (flat (fun _ => z.cells.toList) (List.replicate c ())).toArray e)) 0 p ⟨rfl, _, rfl, by simpa using made_ok hzl c⟩ rfl rfl rfl rfl
              refine ⟨_, _, _, t1, .inl ?_, _, xr_self, rfl⟩
              simp [execOp, ho, e1, e2, hr]
            · cases hz
          · cases h
      · cases h
    · cases h
  · cases h
end
end Go.Proofs.YtaacfehlcdkdhaaGreatDoor.R
namespace Go.Proofs.YtaacfehlcdkdhaaGreatDoor.R
open Go
set_option linter.unusedVariables false
set_option linter.unusedSimpArgs false
open V (pureRun pureRun_run isScalar aggOf str_size add_lit' setO eqV)

def intB : Int → Int → Bool
  | .ofNat a, .ofNat b => Nat.beq a b
  | .negSucc a, .negSucc b => Nat.beq a b
  | _, _ => false
theorem intB_eq (a b : Int) : intB a b = (a == b) := by
  rw [Bool.eq_iff_iff, beq_iff_eq]
  cases a <;> cases b <;> simp [intB] <;> omega
/-- are two keys the same? -/
def keyD (d : TypeDesc) : AV → AV → Option Bool
  | .sc (.int k a), .sc (.int k' b) => (match d with | .int _ => bif kindB k k' then some (intB a b) else none | _ => none)
  | .str l, .str m => (match d with | .string => some (eqL l m) | _ => none)
  | _, _ => none
theorem ba_beq (l m : List UInt8) : ((⟨l.toArray⟩ : ByteArray) == ⟨m.toArray⟩) = (l == m) := by
  rw [← V.toList_beq, toList_bs, toList_bs]
theorem keyD_ok {d : TypeDesc} {ρ : Ren} {u v : AV} {b : Bool} {x y : Value} (h : keyD d u v = some b) (hx : VR ρ u x) (hy : VR ρ v y) : Instr.sameNow d x y = some b := by
  unfold keyD at h
  split at h
  · split at h
    · rename_i k a k' c _ _
      cases hb : kindB k k' with
      | false => rw [hb] at h; cases h
      | true =>
        rw [hb] at h; cases h
        cases hx; cases hy
        simp [Instr.sameNow, kindB_eq hb, intB_eq]
    · cases h
  · split at h
    · cases h; cases hx; cases hy
      simp only [Instr.sameNow, eqL_eq, ba_beq]
    · cases h
  · cases h
def findA (d : TypeDesc) (k : AV) : List AE → Nat → Option (Option (Nat × AV))
  | [], _ => some none
  | e :: es, i => (match keyD d k e.key with
    | some true => some (some (i, e.val))
    | some false => findA d k es (Nat.succ i)
    | none => none)
theorem findA_ok {d : TypeDesc} {ρ : Ren} {k : AV} {x : Value} (hk : VR ρ k x) : ∀ {es : List AE} {l : List MapEntry} {i : Nat} {r : Option (Nat × AV)}, findA d k es i = some r → EsR ρ es l →
    ∃ r', Instr.findNow d x l i = some r' ∧ (match r, r' with | none, none => True | some (j, v), some (j', y) => j = j' ∧ i ≤ j ∧ VR ρ v y ∧ (∃ e, l[j - i]? = some e ∧ Instr.sameNow d x e.key = some true) | _, _ => False)
  | [], l, i, r, h, hl => by cases hl; simp only [findA, Option.some.injEq] at h; subst h; exact ⟨none, rfl, trivial⟩
  | e :: es, l, i, r, h, ⟨y, ys, hl, ⟨h1, h2, h3⟩, hes⟩ => by
    subst hl
    simp only [findA] at h
    split at h
    · rename_i hb; cases h
      have := keyD_ok hb hk h1
      exact ⟨some (i, y.val), by simp [Instr.findNow, this], rfl, Nat.le_refl _, h2, y, by simp, this⟩
    · rename_i hb
      have h0 := keyD_ok hb hk h1
      obtain ⟨r', e1, e2⟩ := findA_ok hk h hes
      refine ⟨r', by simp [Instr.findNow, h0, e1], ?_⟩
      cases r with
      | none => cases r' with | none => trivial | some q => exact e2.elim
      | some q =>
        cases r' with
        | none => exact e2.elim
        | some q' =>
          obtain ⟨j, v⟩ := q; obtain ⟨j', z⟩ := q'
          obtain ⟨a1, a2, a3, e, a4, a5⟩ := e2
          refine ⟨a1, by omega, a3, e, ?_, a5⟩
          rw [show j - i = (j - (i + 1)) + 1 by omega]; simpa using a4
    · cases h
/-- is a type one whose values are keys of ours? -/
def keyT (d : TypeDesc) : Bool := match d with | .int _ => true | .string => true | _ => false
section
variable {P : Program} {n : Nat} {ρ : Ren} {env : Tri AV} {a : Act} {o : Oper}
def wideT (d : TypeDesc) : Bool := match d with | .array _ _ => true | .struct _ => true | _ => false
/-- may a value be a key? -/
def keyC (T : Tab) (kt : TypeId) (d : TypeDesc) (k : AV) : Bool := bif keyT d then true else bif wideT d then (match toV k with
  | some x => (match pureRun T.P (Instr.checkKey true 10000 kt x), pureRun T.P (Instr.checkKey false 10000 kt x) with | some (), some () => true | _, _ => false)
  | none => false) else false
def findW (T : Tab) (kt : TypeId) (x : Value) : List AE → Nat → Option (Option (Nat × AV))
  | [], _ => some none
  | e :: es, i => (match toV e.key with
    | some y => (match eqV T.P 10000 kt x y with
      | some true => bif Instr.sameBits 10000 y x then some (some (i, e.val)) else none
      | some false => findW T kt x es (Nat.succ i)
      | none => none)
    | none => none)
def fK (T : Tab) (kt : TypeId) (d : TypeDesc) (k : AV) (es : List AE) : Option (Option (Nat × AV)) := bif keyC T kt d k then (bif keyT d then findA d k es 0 else (match toV k with | some x => findW T kt x es 0 | none => none)) else none
theorem checkKey_one {kt : TypeId} {d : TypeDesc} (ht : P.underlying kt = some d) (hd : keyT d = true) (b : Bool) (k : Nat) (x : Value) (w : World) : (Instr.checkKey b (k + 1) kt x).run P w = .ok () w := by
  unfold keyT at hd
  split at hd
  · simp [Instr.checkKey, run_underlying ht]
  · simp [Instr.checkKey, run_underlying ht]
  · cases hd
theorem checkKey_run {kt : TypeId} {d : TypeDesc} {k : AV} {x : Value} (ht : P.underlying kt = some d) (hd : keyC (natTab P) kt d k = true) (hk : VR ρ k x) (b : Bool) (w : World) : (Instr.checkKey b 10000 kt x).run P w = .ok () w := by
  unfold keyC at hd
  try simp only [nat_u, nat_i, nat_f, nat_agg, nat_sc, nat_call, nat_P] at hd
  cases hT : keyT d with
  | true =>
    exact checkKey_one ht hT b 9999 x w
  | false =>
    rw [hT] at hd
    simp only [cond_false] at hd
    cases hW : wideT d with
    | false => rw [hW] at hd; cases hd
    | true =>
      rw [hW] at hd
      simp only [cond_true] at hd
      split at hd
      · rename_i y hy
        obtain rfl := toV_eq k y x hy hk
        split at hd
        · rename_i h1 h2
          cases b
          · exact pureRun_run _ _ h2 w
          · exact pureRun_run _ _ h1 w
        · cases hd
      · cases hd
theorem sameBits_of {d : TypeDesc} {x y : Value} (h : Instr.sameNow d x y = some true) : Instr.sameBits 10000 y x = true := by
  unfold Instr.sameNow at h
  split at h
  · split at h
    · rename_i hk; subst hk; simp at h; subst h; simp [Instr.sameBits]
    · cases h
  · simp at h; subst h; simp only [Instr.sameBits]
    rw [show ∀ s : ByteArray, (s == s) = true from fun s => by rw [← V.toList_beq]; simp]
  · simp at h; subst h; simp [Instr.sameBits]
  · cases h
theorem findW_ok {kt : TypeId} {x : Value} : ∀ {es : List AE} {l : List MapEntry} {i : Nat} {r : Option (Nat × AV)}, findW (natTab P) kt x es i = some r → EsR ρ es l →
    ∃ r', (∀ w, (Instr.findAsking kt x l i).run P w = .ok r' w) ∧ (match r, r' with | none, none => True | some (j, v), some (j', y) => j = j' ∧ i ≤ j ∧ VR ρ v y ∧ (∃ e, l[j - i]? = some e ∧ Instr.sameBits 10000 e.key x = true) | _, _ => False)
  | [], l, i, r, h, hl => by cases hl; simp only [findW, Option.some.injEq] at h; subst h; exact ⟨none, fun w => by simp [Instr.findAsking], trivial⟩
  | e :: es, l, i, r, h, ⟨y, ys, hl, ⟨h1, h2, h3⟩, hes⟩ => by
    subst hl
    simp only [findW, nat_P] at h
    split at h
    · rename_i z hz
      have hzy := toV_eq _ _ _ hz h1
      split at h
      · rename_i hb
        cases hsb : Instr.sameBits 10000 z x with
        | false => rw [hsb] at h; cases h
        | true =>
          rw [hsb] at h; cases h
          subst hzy
          exact ⟨some (i, y.val), fun w => by simp [Instr.findAsking, V.run_equal hb w], rfl, Nat.le_refl _, h2, y, by simp, hsb⟩
      · rename_i hb
        obtain ⟨r', e1, e2⟩ := findW_ok h hes
        subst hzy
        refine ⟨r', fun w => by simp [Instr.findAsking, V.run_equal hb w, e1 w], ?_⟩
        cases r with
        | none => cases r' with | none => trivial | some q => exact e2.elim
        | some q =>
          cases r' with
          | none => exact e2.elim
          | some q' =>
            obtain ⟨j, v⟩ := q; obtain ⟨j', z⟩ := q'
            obtain ⟨a1, a2, a3, e, a4, a5⟩ := e2
            refine ⟨a1, by omega, a3, e, ?_, a5⟩
            rw [show j - i = (j - (i + 1)) + 1 by omega]; simpa using a4
      · cases h
    · cases h
theorem fK_ok {kt : TypeId} {d : TypeDesc} {k : AV} {x : Value} {es : List AE} {l : List MapEntry} {r : Option (Nat × AV)} (ht : P.underlying kt = some d) (hk : VR ρ k x) (h : fK (natTab P) kt d k es = some r) (hl : EsR ρ es l) :
    (∀ b w, (Instr.checkKey b 10000 kt x).run P w = .ok () w) ∧ ∃ r', (∀ w, (Instr.findKey kt x l).run P w = .ok r' w) ∧ (match r, r' with | none, none => True | some (j, v), some (j', y) => j = j' ∧ VR ρ v y ∧ (∃ e, l[j]? = some e ∧ Instr.sameBits 10000 e.key x = true) | _, _ => False) := by
  unfold fK at h
  try simp only [nat_u, nat_i, nat_f, nat_agg, nat_sc, nat_call, nat_P] at h
  cases hc : keyC (natTab P) kt d k with
  | false => rw [hc] at h; cases h
  | true =>
    rw [hc] at h
    simp only [cond_true] at h
    refine ⟨fun b w => checkKey_run ht hc hk b w, ?_⟩
    cases hT : keyT d with
    | true =>
      rw [hT] at h
      obtain ⟨r', e1, e2⟩ := findA_ok hk h hl
      refine ⟨r', fun w => by simp [Instr.findKey, run_underlying ht, e1], ?_⟩
      cases r with
      | none => cases r' with | none => trivial | some q => exact e2.elim
      | some q =>
        cases r' with
        | none => exact e2.elim
        | some q' =>
          obtain ⟨j, v⟩ := q; obtain ⟨j', z⟩ := q'
          obtain ⟨a1, a2, a3, e, a4, a5⟩ := e2
          exact ⟨a1, a3, e, by simpa using a4, sameBits_of a5⟩
    | false =>
      rw [hT] at h
      simp only [cond_false] at h
      split at h
      · rename_i y hy
        obtain rfl := toV_eq k y x hy hk
        obtain ⟨r', e1, e2⟩ := findW_ok h hl
        have hw : (match P.underlying kt with | some (.array _ _) | some (.struct _) => true | _ => false) = true := by
          unfold keyC at hc
          try simp only [nat_u, nat_i, nat_f, nat_agg, nat_sc, nat_call, nat_P] at hc
          rw [hT] at hc
          simp only [cond_false] at hc
          cases hW : wideT d with
          | false => rw [hW] at hc; cases hc
          | true => rw [ht]; cases d <;> simp [wideT] at hW <;> rfl
        refine ⟨r', fun w => by rw [V.findNow_wide hw]; exact e1 w, ?_⟩
        cases r with
        | none => cases r' with | none => trivial | some q => exact e2.elim
        | some q =>
          cases r' with
          | none => exact e2.elim
          | some q' =>
            obtain ⟨j, v⟩ := q; obtain ⟨j', z⟩ := q'
            obtain ⟨a1, a2, a3, e, a4, a5⟩ := e2
            exact ⟨a1, a3, e, by simpa using a4, a5⟩
      · cases h
theorem getObj_run {w : World} {b : Nat} {es : Array MapEntry} {c : Nat} (h : w.heap[b]? = some (.map es c)) : (getObj b).run P w = .ok (.map es c) w := by
  simp [getObj, Sem.run, h]
theorem setObj_run {w : World} {b : Nat} {es : Array MapEntry} {c : Nat} (h : w.heap[b]? = some (.map es c)) (ob : Obj) : (setObj b ob).run P w = .ok () (setO w b ob) := by
  simp [setObj, Sem.run, h, setO]
theorem setO_at {w : World} {b : Nat} {ob : Obj} (h : b < w.heap.size) : (setO w b ob).heap[b]? = some ob := by simp [setO, h]
theorem setO_ne {w : World} {b q : Nat} {ob : Obj} (h : q ≠ b) : (setO w b ob).heap[q]? = w.heap[q]? := by
  simp only [setO]; exact Array.getElem?_setIfInBounds_ne (Ne.symm h)
theorem EsR.len {ρ : Ren} : ∀ {es : List AE} {l : List MapEntry}, EsR ρ es l → l.length = es.length
  | [], _, h => by cases h; rfl
  | _ :: _, _, ⟨_, _, e, _, h⟩ => by subst e; simp [EsR.len h]
theorem EsR.push {ρ : Ren} {e : AE} {y : MapEntry} (h : VR ρ e.key y.key ∧ VR ρ e.val y.val ∧ y.born = e.born) : ∀ {es : List AE} {l : List MapEntry}, EsR ρ es l → EsR ρ (es ++ [e]) (l ++ [y])
  | [], _, k => by cases k; exact ⟨y, [], rfl, h, rfl⟩
  | _ :: _, _, ⟨x, xs, e', k, hs⟩ => by subst e'; exact ⟨x, _, rfl, k, EsR.push h hs⟩
def setE : List AE → Nat → AV → AV → List AE
  | [], _, _, _ => []
  | e :: es, 0, k, v => ⟨k, v, e.born⟩ :: es
  | e :: es, i + 1, k, v => e :: setE es i k v
theorem EsR.setE {ρ : Ren} {k v : AV} {x y : Value} (hk : VR ρ k x) (hv : VR ρ v y) : ∀ {es : List AE} {l : List MapEntry} (i : Nat), EsR ρ es l → EsR ρ (setE es i k v) (l.modify i fun e => { e with key := x, val := y })
  | [], _, i, h => by cases h; cases i <;> rfl
  | e :: es, _, 0, ⟨z, zs, e', h, hs⟩ => by subst e'; exact ⟨_, _, rfl, ⟨hk, hv, h.2.2⟩, hs⟩
  | e :: es, _, i + 1, ⟨z, zs, e', h, hs⟩ => by subst e'; exact ⟨z, _, rfl, h, EsR.setE hk hv i hs⟩
theorem EsR.erase {ρ : Ren} : ∀ {es : List AE} {l : List MapEntry} (i : Nat), EsR ρ es l → EsR ρ (es.eraseIdx i) (l.eraseIdx i)
  | [], _, i, h => by cases h; simp [EsR]
  | e :: es, _, 0, ⟨z, zs, e', h, hs⟩ => by subst e'; exact hs
  | e :: es, _, i + 1, ⟨z, zs, e', h, hs⟩ => by subst e'; exact ⟨z, _, rfl, h, EsR.erase i hs⟩
/-- a map's things -/
def mapC : AO → Option (List AE × Nat) | .map es c => some (es, c) | _ => none
theorem mapC_ok {ρ : Ren} {k : Bl} {ob : AO} {x : Obj} {es : List AE} {c : Nat} (h : mapC ob = some (es, c)) (ho : OR ρ k ob x) : ∃ l : Array MapEntry, x = .map l c ∧ EsR ρ es l.toList := by
  unfold mapC at h
  split at h
  · cases h; exact ho
  · cases h
def okT (ok : Bool) (v : AV) (b : Bool) : AV := bif ok then .tup [v, .sc (.bool b)] else v
def mapT (T : Tab) (t : TypeId) : Option (TypeDesc × TypeId × TypeId) := match T.u t with
  | some (.map kt et) => (match T.u kt with | some d => some (d, kt, et) | none => none)
  | _ => none
theorem mapT_ok {t : TypeId} {d : TypeDesc} {kt et : TypeId} (h : mapT (natTab P) t = some (d, kt, et)) : P.underlying t = some (.map kt et) ∧ P.underlying kt = some d := by
  unfold mapT at h
  try simp only [nat_u, nat_i, nat_f, nat_agg, nat_sc, nat_call, nat_P] at h
  split at h
  · rename_i kt' et' ht
    split at h
    · rename_i d' hd; cases h; exact ⟨ht, hd⟩
    · cases h
  · cases h
def zeroV (T : Tab) (t : TypeId) : Option AV := match T.i t with | some i => (match i.zero with | some z => some (ofC z) | none => none) | none => none
theorem zeroV_ok {t : TypeId} {v : AV} (h : zeroV (natTab P) t = some v) : ∃ z, (∀ w, (zeroValue t).run P w = .ok z w) ∧ ∀ ρ, VR ρ v z := by
  unfold zeroV at h
  try simp only [nat_u, nat_i, nat_f, nat_agg, nat_sc, nat_call, nat_P] at h
  split at h
  · rename_i i hi
    split at h
    · rename_i z hz; cases h
      exact ⟨z, fun w => by simp [zeroValue, typeInfo, hi, hz], fun ρ => VR_ofC ρ z⟩
    · cases h
  · cases h
noncomputable def mapX (T : Tab) (env : Tri AV) (s : HS) : Op → Option (AV × HS)
  | .lookup t x y ok => (match evA env x, evA env y, mapT T t with
    | some (.sc (.map none)), some k, some (d, kt, et) => (match fK T kt d k [], zeroV T et with | some none, some z => some (okT ok z false, s) | _, _ => none)
    | some (.mp i), some k, some (d, kt, et) => (match readB s i with
      | some (ob, s') => (match mapC ob with
        | some (es, _) => (match fK T kt d k es with
          | some (some (_, v)) => some (okT ok v true, s')
          | some none => (match zeroV T et with | some z => some (okT ok z false, s') | none => none)
          | none => none)
        | none => none)
      | none => none)
    | _, _, _ => none)
  | .mapUpdate t x y z => upd T env s t x y z
  | .insert t x y z => upd T env s t x y z
  | .call { callee := .builtin .delete, args := args, argTypes := ats } => (match args.toList, ats[0]? with
    | [x, y], some t => (match evA env x, evA env y, mapT T t with
      | some (.mp i), some k, some (d, kt, _) => (match s.h.get i with
        | some ob => (match mapC ob with
          | some (es, c) => (match fK T kt d k es with
            | some (some (j, _)) => (match writeB s i (.map (es.eraseIdx j) c) with | some s' => some (.tup [], s') | none => none)
            | some none => (match writeB s i (.map es c) with | some s' => some (.tup [], s') | none => none)
            | none => none)
          | none => none)
        | none => none)
      | _, _, _ => none)
    | _, _ => none)
  | .call { callee := .builtin .len, args := args, argTypes := ats } => (match args.toList, ats[0]? with
    | [x], some t => (match evA env x, T.u t with
      | some (.mp i), some (.map _ _) => (match readB s i with
        | some (ob, s') => (match mapC ob with | some (es, _) => some (.sc (.int .i64 (.ofNat es.length)), s') | none => none)
        | none => none)
      | _, _ => none)
    | _, _ => none)
  | _ => none
  where
  upd (T : Tab) (env : Tri AV) (s : HS) (t : TypeId) (x y z : Operand) : Option (AV × HS) :=
    match evA env x, evA env y, evA env z, mapT T t with
    | some (.mp i), some k, some v, some (d, kt, _) => (match s.h.get i with
      | some ob => (match mapC ob with
        | some (es, c) => (match fK T kt d k es with
          | some (some (j, _)) => (match writeB s i (.map (setE es j k v) c) with | some s' => some (.tup [], s') | none => none)
          | some none => (match writeB s i (.map (es ++ [⟨k, v, c⟩]) (Nat.succ c)) with | some s' => some (.tup [], s') | none => none)
          | none => none)
        | none => none)
      | none => none)
    | _, _, _, _ => none
theorem upd_ok {s s' : HS} {v : AV} {t : TypeId} {x y z : Operand} (h : mapX.upd (natTab P) env s t x y z = some (v, s')) : Ab s s' ∧ ∀ {M : Nat → Prop} {ρ : Ren} {a : Act} {w : World}, ER n ρ env a → Pre M ρ s s' w →
    ∃ w', Tr M ρ ρ s s' w w' ∧ (Instr.mapUpdate t (a.eval x) (a.eval y) (a.eval z)).run P w = .ok () w' ∧ v = .tup [] := by
  unfold mapX.upd at h
  try simp only [nat_u, nat_i, nat_f, nat_agg, nat_sc, nat_call, nat_P] at h
  split at h
  · rename_i i k u d kt et hx hy hz ht
    obtain ⟨t1, t2⟩ := mapT_ok ht
    split at h
    · rename_i ob hg
      split at h
      · rename_i es c hm
        split at h
        · rename_i j v0 hf
          split at h
          · rename_i s1 hs; cases h
            obtain ⟨ab, hi, hmm, hcc, tr⟩ := writeB_ok hs
            refine ⟨ab, fun {M ρ a w} r p => ?_⟩
            have hM := p.cov i hi hmm
            obtain ⟨q, ob', hq, hob, hor⟩ := p.rel.at_ i ob hM hg
            obtain ⟨l, rfl, hl⟩ := mapC_ok hm hor
            obtain ⟨q', hq', he⟩ := r.ev hx
            rw [hq] at hq'; cases hq'
            obtain ⟨hck, r', hr1, hr2⟩ := fK_ok t2 (r.ev hy) hf hl
            cases r' with
            | none => exact hr2.elim
            | some jy =>
              obtain ⟨j', y0⟩ := jy
              obtain ⟨rfl, _, e, h4, h5⟩ := hr2
              have hlt := (Array.getElem?_eq_some_iff.1 hob).1
              refine ⟨setO w q.b (.map (l.modify j fun e => { e with key := a.eval y, val := a.eval z }) c), tr p.rel hM hq (setO_at hlt) ⟨_, rfl, ?_⟩ (by simp [setO]) (fun b hb => setO_ne hb) rfl rfl rfl, ?_, rfl⟩
              · rw [Array.toList_modify]; exact EsR.setE (r.ev hy) (r.ev hz) j hl
              · have hkey : ((l[j]?).map (·.key)).getD (a.eval y) = e.key := by
                  rw [← Array.getElem?_toList, show l.toList[j]? = some e by simpa using h4]; rfl
                simp [Instr.mapUpdate, run_underlying t1, he, getObj_run hob, hck, hr1, Instr.keyThatStays]
                rw [show (Option.map (fun x => x.key) l[j]?).getD (a.eval y) = e.key from hkey, h5]
                simp [setObj_run hob]
          · cases h
        · rename_i hf
          split at h
          · rename_i s1 hs; cases h
            obtain ⟨ab, hi, hmm, hcc, tr⟩ := writeB_ok hs
            refine ⟨ab, fun {M ρ a w} r p => ?_⟩
            have hM := p.cov i hi hmm
            obtain ⟨q, ob', hq, hob, hor⟩ := p.rel.at_ i ob hM hg
            obtain ⟨l, rfl, hl⟩ := mapC_ok hm hor
            obtain ⟨q', hq', he⟩ := r.ev hx
            rw [hq] at hq'; cases hq'
            obtain ⟨hck, r', hr1, hr2⟩ := fK_ok t2 (r.ev hy) hf hl
            cases r' with
            | some _ => exact hr2.elim
            | none =>
              have hlt := (Array.getElem?_eq_some_iff.1 hob).1
              refine ⟨setO w q.b (.map (l.push ⟨a.eval y, a.eval z, c⟩) (c + 1)), tr p.rel hM hq (setO_at hlt) ⟨_, rfl, ?_⟩ (by simp [setO]) (fun b hb => setO_ne hb) rfl rfl rfl, ?_, rfl⟩
              · rw [Array.toList_push]; exact EsR.push ⟨r.ev hy, r.ev hz, rfl⟩ hl
              · simp [Instr.mapUpdate, run_underlying t1, he, getObj_run hob, hck, hr1, setObj_run hob]
          · cases h
        · cases h
      · cases h
    · cases h
  · cases h
theorem mapX_ok {s s' : HS} {v : AV} (h : mapX (natTab P) env s o.op = some (v, s')) : Ab s s' ∧ ∀ {M : Nat → Prop} {ρ : Ren} {a : Act} {w : World}, ER n ρ env a → Pre M ρ s s' w → Val P a o M ρ s s' w v := by
  unfold mapX at h
  try simp only [nat_u, nat_i, nat_f, nat_agg, nat_sc, nat_call, nat_P] at h
  split at h
  · rename_i t x y ok ho
    split at h
    · rename_i k d kt et hx hy ht
      obtain ⟨t1, t2⟩ := mapT_ok ht
      split at h
      · rename_i z hf hz; cases h
        refine ⟨Ab.refl _, fun {M ρ a w} r p => Gives.val ?_ p.rel⟩
        obtain ⟨zz, hz1, hz2⟩ := zeroV_ok hz
        have hx' : a.eval x = .map none := r.ev hx
        obtain ⟨hck, r', hr1, hr2⟩ := fK_ok (l := []) t2 (r.ev hy) hf rfl
        cases r' with
        | some _ => exact hr2.elim
        | none =>
        refine ⟨if ok then .tuple #[zz, .bool false] else zz, fun w => ?_, ?_⟩
        · simp [execOp, ho, Instr.lookup, run_underlying t1, hx', hck, hr1, hz1]
        · cases ok
          · exact hz2 ρ
          · exact ⟨_, rfl, _, _, rfl, hz2 ρ, _, _, rfl, rfl, rfl⟩
      · cases h
    · rename_i i k d kt et hx hy ht
      obtain ⟨t1, t2⟩ := mapT_ok ht
      split at h
      · rename_i ob s1 hr
        obtain ⟨ab, hh, hcc, hg, hi, hm, hrd⟩ := readB_ok hr
        split at h
        · rename_i es c hmc
          split at h
          · rename_i j v0 hf; cases h
            refine ⟨ab, fun {M ρ a w} r p => ?_⟩
            obtain ⟨q, y', hq, hob, hor⟩ := hrd p.rel (p.cov i hi hm)
            obtain ⟨l, rfl, hl⟩ := mapC_ok hmc hor
            obtain ⟨q', hq', he⟩ := r.ev hx
            rw [hq] at hq'; cases hq'
            obtain ⟨hck, r', hr1, hr2⟩ := fK_ok t2 (r.ev hy) hf hl
            cases r' with
            | none => exact hr2.elim
            | some jy =>
              obtain ⟨j', y0⟩ := jy
              obtain ⟨rfl, hv, _⟩ := hr2
              refine ⟨ρ, w, if ok then .tuple #[y0, .bool true] else y0, Tr.look p.rel hh hcc rfl rfl rfl rfl, .inl ?_, ?_⟩
              · simp [execOp, ho, Instr.lookup, run_underlying t1, he, getObj_run hob, hck, hr1]
              · cases ok
                · exact hv
                · exact ⟨_, rfl, _, _, rfl, hv, _, _, rfl, rfl, rfl⟩
          · rename_i hf
            split at h
            · rename_i z hz; cases h
              refine ⟨ab, fun {M ρ a w} r p => ?_⟩
              obtain ⟨q, y', hq, hob, hor⟩ := hrd p.rel (p.cov i hi hm)
              obtain ⟨l, rfl, hl⟩ := mapC_ok hmc hor
              obtain ⟨q', hq', he⟩ := r.ev hx
              rw [hq] at hq'; cases hq'
              obtain ⟨hck, r', hr1, hr2⟩ := fK_ok t2 (r.ev hy) hf hl
              obtain ⟨zz, hz1, hz2⟩ := zeroV_ok hz
              cases r' with
              | some _ => exact hr2.elim
              | none =>
                refine ⟨ρ, w, if ok then .tuple #[zz, .bool false] else zz, Tr.look p.rel hh hcc rfl rfl rfl rfl, .inl ?_, ?_⟩
                · simp [execOp, ho, Instr.lookup, run_underlying t1, he, getObj_run hob, hck, hr1, hz1]
                · cases ok
                  · exact hz2 ρ
                  · exact ⟨_, rfl, _, _, rfl, hz2 ρ, _, _, rfl, rfl, rfl⟩
            · cases h
          · cases h
        · cases h
      · cases h
    · cases h
  · rename_i t x y z ho
    obtain ⟨ab, k⟩ := upd_ok (n := n) h
    refine ⟨ab, fun {M ρ a w} r p => ?_⟩
    obtain ⟨w', tr, hr, rfl⟩ := k r p
    exact ⟨ρ, w', undef, tr, .inr ⟨by simp [execOp, ho, hr], rfl⟩, _, rfl, rfl⟩
  · rename_i t x y z ho
    obtain ⟨ab, k⟩ := upd_ok (n := n) h
    refine ⟨ab, fun {M ρ a w} r p => ?_⟩
    obtain ⟨w', tr, hr, rfl⟩ := k r p
    exact ⟨ρ, w', undef, tr, .inr ⟨by simp [execOp, ho, hr], rfl⟩, _, rfl, rfl⟩
  · rename_i args ats ho
    split at h
    · rename_i x y t hargs hats
      have ha : args = #[x, y] := by apply Array.ext'; simpa using hargs
      subst ha
      split at h
      · rename_i i k d kt et hx hy ht
        obtain ⟨t1, t2⟩ := mapT_ok ht
        split at h
        · rename_i ob hg
          split at h
          · rename_i es c hm
            split at h
            · rename_i j v0 hf
              split at h
              · rename_i s1 hs; cases h
                obtain ⟨ab, hi, hmm, hcc, tr⟩ := writeB_ok hs
                refine ⟨ab, fun {M ρ a w} r p => ?_⟩
                have hM := p.cov i hi hmm
                obtain ⟨q, ob', hq, hob, hor⟩ := p.rel.at_ i ob hM hg
                obtain ⟨l, rfl, hl⟩ := mapC_ok hm hor
                obtain ⟨q', hq', he⟩ := r.ev hx
                rw [hq] at hq'; cases hq'
                obtain ⟨hck, r', hr1, hr2⟩ := fK_ok t2 (r.ev hy) hf hl
                cases r' with
                | none => exact hr2.elim
                | some jy =>
                  obtain ⟨j', y0⟩ := jy
                  obtain ⟨rfl, _, e, h4, h5⟩ := hr2
                  have hlt := (Array.getElem?_eq_some_iff.1 hob).1
                  refine ⟨ρ, setO w q.b (.map (l.eraseIdxIfInBounds j) c), .tuple #[], tr p.rel hM hq (setO_at hlt) ⟨_, rfl, ?_⟩ (by simp [setO]) (fun b hb => setO_ne hb) rfl rfl rfl, .inl ?_, _, rfl, rfl⟩
                  · rw [Array.toList_eraseIdxIfInBounds]; exact EsR.erase j hl
                  · simp [execOp, ho, resolve, invoke, builtin, Builtin.delete_, hats, run_underlying t1, he, getObj_run hob, hck, hr1, setObj_run hob]
              · cases h
            · rename_i hf
              split at h
              · rename_i s1 hs; cases h
                obtain ⟨ab, hi, hmm, hcc, tr⟩ := writeB_ok hs
                refine ⟨ab, fun {M ρ a w} r p => ?_⟩
                have hM := p.cov i hi hmm
                obtain ⟨q, ob', hq, hob, hor⟩ := p.rel.at_ i ob hM hg
                obtain ⟨l, rfl, hl⟩ := mapC_ok hm hor
                obtain ⟨q', hq', he⟩ := r.ev hx
                rw [hq] at hq'; cases hq'
                obtain ⟨hck, r', hr1, hr2⟩ := fK_ok t2 (r.ev hy) hf hl
                cases r' with
                | some _ => exact hr2.elim
                | none =>
                  have hlt := (Array.getElem?_eq_some_iff.1 hob).1
                  refine ⟨ρ, setO w q.b (.map l c), .tuple #[], tr p.rel hM hq (setO_at hlt) ⟨_, rfl, hl⟩ (by simp [setO]) (fun b hb => setO_ne hb) rfl rfl rfl, .inl ?_, _, rfl, rfl⟩
                  simp [execOp, ho, resolve, invoke, builtin, Builtin.delete_, hats, run_underlying t1, he, getObj_run hob, hck, hr1, setObj_run hob]
              · cases h
            · cases h
          · cases h
        · cases h
      · cases h
    · cases h
  · rename_i args ats ho
    split at h
    · rename_i x t hargs hats
      have ha : args = #[x] := by apply Array.ext'; simpa using hargs
      subst ha
      split at h
      · rename_i i kt et hx ht
        split at h
        · rename_i ob s1 hr
          obtain ⟨ab, hh, hcc, hg, hi, hm, hrd⟩ := readB_ok hr
          split at h
          · rename_i es c hmc; cases h
            refine ⟨ab, fun {M ρ a w} r p => ?_⟩
            obtain ⟨q, y', hq, hob, hor⟩ := hrd p.rel (p.cov i hi hm)
            obtain ⟨l, rfl, hl⟩ := mapC_ok hmc hor
            obtain ⟨q', hq', he⟩ := r.ev hx
            rw [hq] at hq'; cases hq'
            refine ⟨ρ, w, _, Tr.look p.rel hh hcc rfl rfl rfl rfl, .inl ?_, rfl⟩
            have hsz : l.size = es.length := by rw [← Array.length_toList]; exact hl.len
            simp [execOp, ho, resolve, invoke, builtin, Builtin.len_, hats, run_underlying ht, he, getObj_run hob, goInt, hsz]
          · cases h
        · cases h
      · cases h
    · cases h
  · cases h
end
end Go.Proofs.YtaacfehlcdkdhaaGreatDoor.R
namespace Go.Proofs.YtaacfehlcdkdhaaGreatDoor.R
open Go
set_option linter.unusedVariables false
set_option linter.unusedSimpArgs false
open V (pureRun pureRun_run isScalar aggOf str_size add_lit' setO made_cells flat)

def fillA (pl : Nat → Option (Nat × Nat)) : List AV → List (Nat × AV) → Option (List AV)
  | cells, [] => some cells
  | cells, (i, v) :: rest => (match pl i with
    | some (off, size) => bif Nat.beq (cellsA v).length size then (match ovr cells off (cellsA v) with | some cells' => fillA pl cells' rest | none => none) else none
    | none => none)
theorem fold_set (off : Nat) : ∀ (l : List Value) (k : Nat) (cs : Array Value), off + k + l.length ≤ cs.size →
    ((l.zipIdx k).foldl (fun cs p => cs.setIfInBounds (off + p.2) p.1) cs).toList = cs.toList.take (off + k) ++ l ++ cs.toList.drop (off + k + l.length)
  | [], k, cs, _ => by simp
  | c :: l, k, cs, h => by
    simp only [List.zipIdx_cons, List.foldl_cons]
    simp only [List.length_cons] at h
    rw [fold_set off l (k + 1) _ (by simp; omega)]
    simp only [Array.toList_setIfInBounds, List.length_cons]
    rw [show off + (k + 1) = off + k + 1 by omega, List.take_succ_eq_append_getElem (by simp; omega), List.take_set_of_le (by omega), List.drop_set_of_lt (by omega)]
    simp only [List.getElem_set_self, List.append_assoc, List.singleton_append, List.cons_append, List.nil_append]
    rw [show off + k + 1 + l.length = off + k + (l.length + 1) by omega]
theorem fill_ok {ρ : Ren} {pl pl' : Nat → Option (Nat × Nat)} (hp : ∀ i q, pl i = some q → pl' i = some q) : ∀ {parts : List (Nat × AV)} {parts' : List (Nat × Value)} {cells cs : List AV} {c : Array Value},
    fillA pl cells parts = some cs → VRL ρ cells c.toList → parts.map (·.1) = parts'.map (·.1) → VRL ρ (parts.map (·.2)) (parts'.map (·.2)) → ∃ c', Instr.fill pl' c parts' = some c' ∧ VRL ρ cs c'.toList
  | [], parts', cells, cs, c, h, hc, hi, hv => by
    cases parts' with
    | nil => simp only [fillA, Option.some.injEq] at h; subst h; exact ⟨c, rfl, hc⟩
    | cons p ps => simp at hi
  | (i, v) :: rest, parts', cells, cs, c, h, hc, hi, hv => by
    cases parts' with
    | nil => simp at hi
    | cons q qs =>
      obtain ⟨i', x⟩ := q
      simp only [List.map_cons, List.cons.injEq] at hi
      obtain ⟨rfl, hi⟩ := hi
      obtain ⟨y, ys, e, hx, hs⟩ := hv
      simp only [List.map_cons, List.cons.injEq] at e
      obtain ⟨rfl, rfl⟩ := e
      simp only [fillA] at h
      split at h
      · rename_i off size hpl
        cases hb : Nat.beq (cellsA v).length size with
        | false => rw [hb] at h; cases h
        | true =>
          rw [hb] at h
          simp only [cond_true] at h
          split at h
          case h_2 => cases h
          rename_i cells' hov
          have b1 := Nat.eq_of_beq_eq_true hb
          have hcu := cellsA_ok hx
          have hl1 : x.cells.toList.length = (cellsA v).length := hcu.len
          obtain ⟨o1, o2, o3⟩ := ovr_ok hov hc hcu
          have hxs : x.cells.size = size := by rw [← Array.length_toList]; omega
          have hf := fold_set off x.cells.toList 0 c (by rw [← Array.length_toList (xs := c)]; omega)
          have hfa : (x.cells.zipIdx.foldl (fun cs (p : Value × Nat) => cs.setIfInBounds (off + p.2) p.1) c).toList = c.toList.take off ++ x.cells.toList ++ c.toList.drop (off + x.cells.toList.length) := by
            rw [← Array.foldl_toList, Array.toList_zipIdx]; simpa using hf
          have hsp : VRL ρ cells' (x.cells.zipIdx.foldl (fun cs (p : Value × Nat) => cs.setIfInBounds (off + p.2) p.1) c).toList := by rw [hfa]; exact o1
          have hcs : off + size ≤ c.size := by rw [← Array.length_toList (xs := c), ← hxs, ← Array.length_toList (xs := x.cells)]; exact o3
          obtain ⟨c', h1, h2⟩ := fill_ok hp h hsp hi hs
          refine ⟨c', ?_, h2⟩
          simp only [Instr.fill, hp i _ hpl]
          rw [if_neg (by simp only [Bool.or_eq_true, decide_eq_true_eq]; omega)]
          exact h1
      · cases h
noncomputable def partsA (env : Tri AV) : List (Nat × Operand) → Option (List (Nat × AV))
  | [] => some []
  | (i, x) :: l => (match evA env x with | some v => (match partsA env l with | some r => some ((i, v) :: r) | none => none) | none => none)
def fieldP (T : Tab) (fs : Array Field) (i : Nat) : Option (Nat × Nat) := match fs[i]? with | some f => (match sizeA T f.type with | some k => some (f.offset, k) | none => none) | none => none
def sizesOk (T : Tab) : List Field → Bool | [] => true | f :: l => (match sizeA T f.type with | some _ => sizesOk T l | none => false)
section
variable {P : Program} {n : Nat} {ρ : Ren} {env : Tri AV} {a : Act} {o : Oper}
theorem partsA_ok (r : ER n ρ env a) : ∀ {l : List (Nat × Operand)} {ps : List (Nat × AV)}, partsA env l = some ps → ps.map (·.1) = (l.map fun (i, x) => (i, a.eval x)).map (·.1) ∧ VRL ρ (ps.map (·.2)) ((l.map fun (i, x) => (i, a.eval x)).map (·.2))
  | [], ps, h => by simp only [partsA, Option.some.injEq] at h; subst h; exact ⟨rfl, rfl⟩
  | (i, x) :: l, ps, h => by
    simp only [partsA] at h
    split at h
    · rename_i v hv
      split at h
      · rename_i q hq; cases h
        obtain ⟨h1, h2⟩ := partsA_ok r hq
        exact ⟨by simp only [List.map_cons, h1], _, _, rfl, r.ev hv, h2⟩
      · cases h
    · cases h
theorem places_run : ∀ {l : List Field}, sizesOk (natTab P) l = true → ∀ w, (l.mapM (fun f => (do pure (f.offset, ← sizeOf f.type) : Sem (Nat × Nat)))).run P w = .ok (l.map fun f => (f.offset, (sizeA (natTab P) f.type).getD 0)) w
  | [], _, w => rfl
  | f :: l, h, w => by
    simp only [sizesOk] at h
    split at h
    · rename_i k hk
      have ih := places_run h w
      simp only [List.mapM_cons, Sem.run_bind, sizeA_run hk, Result.andThen_ok, Sem.run_pure, ih, List.map_cons, hk, Option.getD_some]
    · cases h
theorem placesA_run {fs : Array Field} (h : sizesOk (natTab P) fs.toList = true) (w : World) : (fs.mapM (fun f => (do pure (f.offset, ← sizeOf f.type) : Sem (Nat × Nat)))).run P w = .ok (fs.toList.map fun f => (f.offset, (sizeA (natTab P) f.type).getD 0)).toArray w := by
  have h1 := places_run (P := P) h w
  rw [Array.mapM_eq_mapM_toList]
  show (Sem.bind _ _).run P w = _
  rw [Sem.run_bind', h1]; rfl
noncomputable def buildX (T : Tab) (env : Tri AV) : Op → Option AV
  | .build t parts => (match T.u t, zeroA T t, partsA env parts.toList with
    | some (.struct fs), some z, some ps => bif sizesOk T fs.toList then (match fillA (fieldP T fs) z ps with | some cs => some (.agg cs) | none => none) else none
    | some (.array _ e), some z, some ps => (match sizeA T e with | some k => (match fillA (fun i => some (Nat.mul i k, k)) z ps with | some cs => some (.agg cs) | none => none) | none => none)
    | _, _, _ => none)
  | _ => none
theorem buildX_ok {v : AV} (r : ER n ρ env a) (h : buildX (natTab P) env o.op = some v) : Gives P ρ a o v := by
  unfold buildX at h
  try simp only [nat_u, nat_i, nat_f, nat_agg, nat_sc, nat_call, nat_P] at h
  split at h
  · rename_i t parts ho
    split at h
    · rename_i fs z ps ht hz hp
      cases hb : sizesOk (natTab P) fs.toList with
      | false => rw [hb] at h; cases h
      | true =>
        rw [hb] at h
        simp only [cond_true] at h
        split at h
        · rename_i cs hf; cases h
          obtain ⟨zz, hz1, hz2⟩ := zeroA_ok hz
          obtain ⟨p1, p2⟩ := partsA_ok r hp
          have hpl := placesA_run (P := P) hb
          have hq : ∀ i q, fieldP (natTab P) fs i = some q → (fs.toList.map fun f => (f.offset, (sizeA (natTab P) f.type).getD 0)).toArray[i]? = some q := fun i q hq => by
            unfold fieldP at hq
            try simp only [nat_u, nat_i, nat_f, nat_agg, nat_sc, nat_call, nat_P] at hq
            split at hq
            · rename_i f hf0
              split at hq
              · rename_i k hk; cases hq
                simp only [List.getElem?_toArray, List.getElem?_map, Array.getElem?_toList, hf0, Option.map_some, hk, Option.getD_some]
              · cases hq
            · cases hq
          obtain ⟨c', h1, h2⟩ := fill_ok hq hf (hz2 ρ) p1 p2
          refine ⟨.agg c', fun w => ?_, _, rfl, h2⟩
          simp only [execOp, ho, Instr.build, Sem.run_bind, hz1, run_underlying ht, Result.andThen_ok, hpl w]
          simp only [Array.toList_map]
          rw [h1]; rfl
        · cases h
    · rename_i m e z ps ht hz hp
      split at h
      · rename_i k hk
        split at h
        · rename_i cs hf; cases h
          obtain ⟨zz, hz1, hz2⟩ := zeroA_ok hz
          obtain ⟨p1, p2⟩ := partsA_ok r hp
          obtain ⟨c', h1, h2⟩ := fill_ok (pl' := fun i => some (i * k, k)) (fun _ _ e => e) hf (hz2 ρ) p1 p2
          refine ⟨.agg c', fun w => ?_, _, rfl, h2⟩
          simp only [execOp, ho, Instr.build, Sem.run_bind, hz1, run_underlying ht, Result.andThen_ok, sizeA_run hk]
          simp only [Array.toList_map]
          rw [h1]; rfl
        · cases h
      · cases h
    · cases h
  · cases h
/-- a text's next letter: only those of one byte -/
def low (l : List UInt8) (pos : Nat) : Option Nat := match l[pos]? with | some b => bif Nat.blt b.toNat 128 then some b.toNat else none | none => none
def birth (es : List AE) (seen : List Nat) : List AE := match es with
  | [] => []
  | e :: l => bif seen.contains e.born then birth l seen else e :: birth l seen
noncomputable def rangeX (T : Tab) (env : Tri AV) (s : HS) : Op → Option (AV × HS)
  | .buildSlice t len parts => (match T.u t with
    | some (.slice e) => (match sizeA T e, zeroA T e, partsA env parts.toList with
      | some k, some zs, some ps => bif Nat.beq zs.length k && Nat.ble (Nat.mul len k) 16777216 then (match fillA (fun i => some (Nat.mul i k, k)) (List.replicate len zs).flatten ps with
        | some cs => (match newB s (.row cs e) with | some s' => some (.sl s.c 0 len len, s') | none => none)
        | none => none) else none
      | _, _, _ => none)
    | _ => none)
  | .range t x => (match evA env x, T.u t with
    | some (.str l), some .string => (match newB s (.sit l 0) with | some s' => some (.ptr s.c 0, s') | none => none)
    | some (.sc (.map none)), some (.map _ _) => (match newB s (.mit none 0 [] 0) with | some s' => some (.ptr s.c 0, s') | none => none)
    | some (.mp i), some (.map _ _) => (match readB s i with
      | some (.map _ clock, s1) => (match newB s1 (.mit (some i) clock [] clock) with | some s' => some (.ptr s1.c 0, s') | none => none)
      | _ => none)
    | _, _ => none)
  | .next x true => (match evA env x with
    | some (.ptr i 0) => (match s.h.get i with
      | some (.sit l pos) => bif Nat.blt pos l.length then (match low l pos with
          | some c => (match writeB s i (.sit l (Nat.succ pos)) with | some s' => some (.tup [.sc (.bool true), .sc (.int .i64 (.ofNat pos)), .sc (.int .i32 (.ofNat c))], s') | none => none)
          | none => none)
        else (match readB s i with | some (_, s') => some (.tup [.sc (.bool false)], s') | none => none)
      | _ => none)
    | _ => none)
  | .next x false => (match evA env x with
    | some (.ptr i 0) => (match s.h.get i with
      | some (.mit none _ _ _) => (match readB s i with | some (_, s') => some (.tup [.sc (.bool false)], s') | none => none)
      | some (.mit (some m) since seen last) => (match readB s m with
        | some (.map es clock, s1) => bif !seen.isEmpty && !es.isEmpty && es.all (fun e => Nat.ble last e.born) then none else
          (match birth es seen with
          | [] => (match readB s1 i with | some (_, s') => some (.tup [.sc (.bool false)], s') | none => none)
          | [e] => bif Nat.blt e.born since then (match writeB s1 i (.mit (some m) since (seen ++ [e.born]) clock) with | some s' => some (.tup [.sc (.bool true), e.key, e.val], s') | none => none) else none
          | _ => none)
        | _ => none)
      | _ => none)
    | _ => none)
  | .entry x => (match evA env x with
    | some (.ptr i 0) => (match readB s i with
      | some (.mit (some m) _ seen st, s1) => (match readB s1 m with
        | some (.map es clock, s2) => bif Nat.beq clock st then (match seen.getLast? with
            | some b => (match es.find? (fun e => Nat.beq e.born b) with | some e => some (.tup [e.key, e.val], s2) | none => none)
            | none => none) else none
        | _ => none)
      | _ => none)
    | _ => none)
  | _ => none
theorem find_born {ρ : Ren} {b : Nat} : ∀ {es : List AE} {l : List MapEntry} {e : AE}, EsR ρ es l → es.find? (fun e => Nat.beq e.born b) = some e → ∃ y, l.find? (fun e => e.born == b) = some y ∧ VR ρ e.key y.key ∧ VR ρ e.val y.val
  | [], _, _, _, hf => by simp at hf
  | e0 :: es, _, e, ⟨x, xs, e', ⟨h1, h2, h3⟩, hs⟩, hf => by
    subst e'
    rw [List.find?_cons] at hf
    cases hb : Nat.beq e0.born b with
    | true =>
      rw [hb] at hf; cases hf
      refine ⟨x, ?_, h1, h2⟩
      rw [List.find?_cons, h3, Nat.eq_of_beq_eq_true hb]; simp
    | false =>
      rw [hb] at hf
      obtain ⟨y, k1, k2, k3⟩ := find_born hs hf
      refine ⟨y, ?_, k2, k3⟩
      rw [List.find?_cons, h3, show (e0.born == b) = false from by simpa using Nat.ne_of_beq_eq_false hb]; exact k1
theorem madeZ_run {e : TypeId} {k len : Nat} {zs : List AV} (hk : sizeA (natTab P) e = some k) (hz : zeroA (natTab P) e = some zs) (hl : zs.length = k) : ∃ z : Value, (∀ w, (zeroValue e).run P w = .ok z w) ∧ ∀ zc : Array Value, (zc = if len * k = 0 then #[] else z.cells) →
    ∀ ρ, VRL ρ (List.replicate len zs).flatten ((Array.range (len * k)).map (zc[· % zc.size]!)).toList := by
  obtain ⟨z, h1, h2⟩ := zeroA_ok hz
  refine ⟨z, h1, fun zc hzc ρ => ?_⟩
  by_cases h0 : len * k = 0
  · have : (List.replicate len zs).flatten = [] := by
      apply List.eq_nil_of_length_eq_zero
      simp [List.length_flatten, hl, h0]
    rw [this, h0]; simp [VRL]
  · rw [if_neg h0] at hzc
    subst hzc
    have hs : z.cells.size = k := by rw [← Array.length_toList, (h2 ρ).len, hl]
    have hm := made_cells z.cells len
    rw [hs] at hm
    have : ((Array.range (len * k)).map (z.cells[· % z.cells.size]!)) = madeCells z.cells (len * k) := rfl
    rw [this, hm]
    simpa using made_ok (h2 ρ) len
theorem low_ok {l : List UInt8} {pos c : Nat} (h : low l pos = some c) : pos < l.length ∧ Utf8.decode ⟨l.toArray⟩ pos = (c, 1) := by
  unfold low at h
  split at h
  · rename_i b hb
    cases hc : Nat.blt b.toNat 128 with
    | false => rw [hc] at h; cases h
    | true =>
      rw [hc] at h; cases h
      have hlt : b.toNat < 128 := Nat.le_of_ble_eq_true hc
      obtain ⟨h1, h2⟩ := List.getElem?_eq_some_iff.1 hb
      exact ⟨h1, V.dec_low hb hlt⟩
  · cases h
theorem getObj_any {w : World} {b : Nat} {ob : Obj} (h : w.heap[b]? = some ob) (hn : ∀ c t z, ob ≠ .cells c t z) : (getObj b).run P w = .ok ob w := by
  cases ob <;> simp [getObj, Sem.run, h] <;> exact (hn _ _ _ rfl).elim
theorem setObj_any {w : World} {b : Nat} {ob : Obj} (h : w.heap[b]? = some ob) (hn : ∀ c t z, ob ≠ .cells c t z) (ob' : Obj) : (setObj b ob').run P w = .ok () (setO w b ob') := by
  cases ob <;> simp [setObj, Sem.run, h, setO] <;> exact (hn _ _ _ rfl).elim
theorem birth_ok {ρ : Ren} {seen : List Nat} : ∀ {es : List AE} {l : List MapEntry}, EsR ρ es l → EsR ρ (birth es seen) (l.filter fun e => !seen.toArray.contains e.born)
  | [], _, h => by cases h; rfl
  | e :: es, _, ⟨x, xs, e', ⟨h1, h2, h3⟩, hs⟩ => by
    subst e'
    have ih := birth_ok (seen := seen) hs
    simp only [birth, List.filter_cons]
    rw [h3]
    have hc2 : seen.toArray.contains e.born = seen.contains e.born := by simp
    rw [hc2]
    cases hc : seen.contains e.born with
    | true => exact ih
    | false => exact ⟨x, _, rfl, ⟨h1, h2, h3⟩, ih⟩
theorem all_born {ρ : Ren} {last : Nat} : ∀ {es : List AE} {l : List MapEntry}, EsR ρ es l → es.all (fun e => Nat.ble last e.born) = l.all fun e => decide (e.born ≥ last)
  | [], _, h => by cases h; rfl
  | e :: es, _, ⟨x, xs, e', ⟨_, _, h3⟩, hs⟩ => by
    subst e'
    simp only [List.all_cons, all_born hs, h3]
    congr 1
    rw [Bool.eq_iff_iff, decide_eq_true_iff, Nat.ble_eq]
end
end Go.Proofs.YtaacfehlcdkdhaaGreatDoor.R
namespace Go.Proofs.YtaacfehlcdkdhaaGreatDoor.R
open Go
set_option linter.unusedVariables false
set_option linter.unusedSimpArgs false
open V (pureRun pureRun_run isScalar aggOf str_size add_lit' setO made_cells flat setRow_at)

section
variable {P : Program} {n : Nat} {ρ : Ren} {env : Tri AV} {a : Act} {o : Oper}
theorem rangeX_ok {s s' : HS} {v : AV} (h : rangeX (natTab P) env s o.op = some (v, s')) : Ab s s' ∧ ∀ {M : Nat → Prop} {ρ : Ren} {a : Act} {w : World}, ER n ρ env a → Pre M ρ s s' w → Val P a o M ρ s s' w v := by
  unfold rangeX at h
  try simp only [nat_u, nat_i, nat_f, nat_agg, nat_sc, nat_call, nat_P] at h
  split at h
  · rename_i t len parts ho
    split at h
    · rename_i e ht
      split at h
      · rename_i k zs ps hk hz hp
        cases hb : Nat.beq zs.length k && Nat.ble (Nat.mul len k) 16777216 with
        | false => rw [hb] at h; cases h
        | true =>
          rw [hb] at h
          simp only [cond_true] at h
          simp only [Bool.and_eq_true] at hb
          have b1 := Nat.eq_of_beq_eq_true hb.1
          have b2 : len * k ≤ 16777216 := Nat.le_of_ble_eq_true hb.2
          split at h
          · rename_i cs hf
            split at h
            · rename_i s1 hs; cases h
              obtain ⟨ab, tr⟩ := newB_ok hs
              refine ⟨ab, fun {M ρ a w} r p => ?_⟩
              obtain ⟨z, z1, z2⟩ := madeZ_run (len := len) hk hz b1
              obtain ⟨p1, p2⟩ := partsA_ok r hp
              obtain ⟨c', h1, h2⟩ := fill_ok (pl' := fun i => some (i * k, k)) (fun _ _ e => e) hf (z2 _ rfl ρ) p1 p2
              obtain ⟨t1, hn⟩ := tr (w' := w.alloc (.cells c' e)) 0 p ⟨rfl, _, rfl, h2⟩ rfl rfl rfl rfl
              refine ⟨_, _, _, t1, .inl ?_, _, xr_self, rfl⟩
              simp only [execOp, ho, Instr.buildSlice, Sem.run_bind, run_underlying ht, Result.andThen_ok, sizeA_run hk]
              rw [if_neg (by omega)]
              by_cases h0 : len * k = 0
              · rw [if_pos h0] at h1 ⊢
                simp only [Sem.run_bind, Sem.run_pure, Result.andThen_ok, Array.toList_map]
                rw [show (parts.toList.map fun (x : Nat × Operand) => (x.1, a.eval x.2)) = parts.toList.map fun (i, x) => (i, a.eval x) from rfl, h1]
                simp [newRow]
              · rw [if_neg h0] at h1 ⊢
                simp only [Sem.run_bind, Sem.run_pure, z1 w, Result.andThen_ok, Array.toList_map]
                rw [show (parts.toList.map fun (x : Nat × Operand) => (x.1, a.eval x.2)) = parts.toList.map fun (i, x) => (i, a.eval x) from rfl, h1]
                simp [newRow]
            · cases h
          · cases h
      · cases h
    · cases h
  · rename_i t x ho
    split at h
    · rename_i l hx ht
      split at h
      · rename_i s1 hs; cases h
        obtain ⟨ab, tr⟩ := newB_ok hs
        refine ⟨ab, fun {M ρ a w} r p => ?_⟩
        have he : a.eval x = .string ⟨l.toArray⟩ := r.ev hx
        obtain ⟨t1, hn⟩ := tr (w' := w.alloc (.stringIter ⟨l.toArray⟩ 0)) 0 p ⟨rfl, rfl⟩ rfl rfl rfl rfl
        refine ⟨_, _, _, t1, .inl ?_, _, xr_self, rfl⟩
        simp [execOp, ho, he, Instr.range, run_underlying ht, newObj, Sem.run, World.alloc_eq]
      · cases h
    · rename_i k e hx ht
      split at h
      · rename_i s1 hs; cases h
        obtain ⟨ab, tr⟩ := newB_ok hs
        refine ⟨ab, fun {M ρ a w} r p => ?_⟩
        have he : a.eval x = .map none := r.ev hx
        obtain ⟨t1, hn⟩ := tr (w' := w.alloc (.mapIter none 0 #[] 0)) 0 p ⟨rfl, rfl⟩ rfl rfl rfl rfl
        refine ⟨_, _, _, t1, .inl ?_, _, xr_self, rfl⟩
        simp [execOp, ho, he, Instr.range, run_underlying ht, newObj, Sem.run, World.alloc_eq]
      · cases h
    · rename_i i k e hx ht
      split at h
      · rename_i es clock s1 hr
        split at h
        · rename_i s2 hs; cases h
          obtain ⟨ab1, hh, hcc, hg, hi, hm, hrd⟩ := readB_ok hr
          obtain ⟨ab, tr⟩ := newB_ok hs
          refine ⟨ab1.trans ab, fun {M ρ a w} r p => ?_⟩
          obtain ⟨q, y', hq, hob, l, rfl, hl⟩ := hrd p.rel (p.cov i hi (ab.R i hm))
          obtain ⟨q', hq', he⟩ := r.ev hx
          rw [hq] at hq'; cases hq'
          have p2 : Pre M ρ s1 s' w := ⟨by rw [hh]; exact p.rel, fun i hi => p.cov i (by omega), fun i hi => p.fre i ⟨by have := hi.1; omega, hi.2⟩⟩
          obtain ⟨t1, hn⟩ := tr (w' := w.alloc (.mapIter (some q.b) clock #[] clock)) 0 p2 ⟨rfl, q, hq, rfl⟩ rfl rfl rfl rfl
          have t0 : Tr M ρ ρ s s1 w w := Tr.look p.rel hh hcc rfl rfl rfl rfl
          have t2 : Tr (fun i => M i ∨ new s s1 i) ρ (xr ρ s1.c ⟨w.heap.size, 0, 0⟩) s1 s' w (w.alloc (.mapIter (some q.b) clock #[] clock)) := by
            have : (fun i => M i ∨ new s s1 i) = M := funext fun i => propext ⟨fun hi => hi.resolve_right fun hn => by have := hn.1; have := hn.2; omega, .inl⟩
            rw [this]; exact t1
          refine ⟨_, _, _, t0.trans ab1 ab t2, .inl ?_, _, xr_self, rfl⟩
          simp [execOp, ho, he, Instr.range, run_underlying ht, getObj_run hob, newObj, Sem.run, World.alloc_eq]
        · cases h
      · cases h
    · cases h
  · rename_i x ho
    split at h
    · rename_i i hx
      split at h
      · rename_i l pos hg
        cases hb : Nat.blt pos l.length with
        | true =>
          rw [hb] at h
          simp only [cond_true] at h
          split at h
          · rename_i c hc
            split at h
            · rename_i s1 hs; cases h
              obtain ⟨ab, hi, hm, hcc, tr⟩ := writeB_ok hs
              refine ⟨ab, fun {M ρ a w} r p => ?_⟩
              have hM := p.cov i hi hm
              obtain ⟨q, ob', hq, hob, h0, rfl⟩ := p.rel.at_ i _ hM hg
              obtain ⟨q', hq', he⟩ := r.ev hx
              rw [hq] at hq'; cases hq'
              rw [h0] at he
              have hlt := (Array.getElem?_eq_some_iff.1 hob).1
              obtain ⟨l1, l2⟩ := low_ok hc
              have hp : pos < (⟨l.toArray⟩ : ByteArray).size := l1
              refine ⟨ρ, setO w q.b (.stringIter ⟨l.toArray⟩ (pos + 1)), .tuple #[.bool true, goInt pos, .int .i32 c], tr p.rel hM hq (setO_at hlt) ⟨h0, rfl⟩ (by simp [setO]) (fun b hb => setO_ne hb) rfl rfl rfl, .inl ?_, _, rfl, _, _, rfl, rfl, _, _, rfl, rfl, _, _, rfl, rfl, rfl⟩
              simp [execOp, ho, he, Instr.next, getObj_any hob (by simp), hp, l2, setObj_any hob (by simp), goInt]
            · cases h
          · cases h
        | false =>
          rw [hb] at h
          simp only [cond_false] at h
          split at h
          · rename_i ob s1 hr; cases h
            obtain ⟨ab, hh, hcc, hg', hi, hm, hrd⟩ := readB_ok hr
            refine ⟨ab, fun {M ρ a w} r p => ?_⟩
            obtain ⟨q, ob', hq, hob, h0, rfl⟩ := p.rel.at_ i _ (p.cov i hi hm) hg
            obtain ⟨q', hq', he⟩ := r.ev hx
            rw [hq] at hq'; cases hq'
            rw [h0] at he
            have hp : ¬ pos < (⟨l.toArray⟩ : ByteArray).size := fun hlt => by
              have : Nat.blt pos l.length = true := Nat.ble_eq_true_of_le hlt
              rw [this] at hb; cases hb
            refine ⟨ρ, w, .tuple #[.bool false], Tr.look p.rel hh hcc rfl rfl rfl rfl, .inl ?_, _, rfl, _, _, rfl, rfl, rfl⟩
            simp [execOp, ho, he, Instr.next, getObj_any hob (by simp), hp]
          · cases h
      · cases h
    · cases h
  · rename_i x ho
    split at h
    · rename_i i hx
      split at h
      · rename_i since seen last hg
        split at h
        · rename_i ob s1 hr; cases h
          obtain ⟨ab, hh, hcc, hg', hi, hm, hrd⟩ := readB_ok hr
          refine ⟨ab, fun {M ρ a w} r p => ?_⟩
          obtain ⟨q, ob', hq, hob, h0, rfl⟩ := p.rel.at_ i _ (p.cov i hi hm) hg
          obtain ⟨q', hq', he⟩ := r.ev hx
          rw [hq] at hq'; cases hq'
          rw [h0] at he
          refine ⟨ρ, w, .tuple #[.bool false], Tr.look p.rel hh hcc rfl rfl rfl rfl, .inl ?_, _, rfl, _, _, rfl, rfl, rfl⟩
          simp [execOp, ho, he, Instr.next, getObj_any hob (by simp)]
        · cases h
      · rename_i m since seen last hg
        split at h
        · rename_i es clock s1 hr
          obtain ⟨ab1, hh, hcc, hgm, hi1, hm1, hrd⟩ := readB_ok hr
          cases hb : !seen.isEmpty && !es.isEmpty && es.all (fun e => Nat.ble last e.born) with
          | true => rw [hb] at h; cases h
          | false =>
            rw [hb] at h
            simp only [cond_false] at h
            have key : ∀ {M : Nat → Prop} {ρ : Ren} {a : Act} {w : World}, ER n ρ env a → Rel M ρ s.h w → M m → M i → ∃ q qm : Bl, ∃ l : Array MapEntry, q.o = 0 ∧ ρ i = some q ∧ ρ m = some qm ∧ a.eval x = .pointer (some ⟨q.b, 0, none⟩) ∧ w.heap[q.b]? = some (.mapIter (some qm.b) since seen.toArray last) ∧ w.heap[qm.b]? = some (.map l clock) ∧
                EsR ρ es l.toList ∧ EsR ρ (birth es seen) (l.filter fun e => !seen.toArray.contains e.born).toList ∧ (!seen.toArray.isEmpty && !l.isEmpty && l.all (fun e => decide (e.born ≥ last))) = false := by
              intro M ρ a w r rel hMm hMi
              obtain ⟨q, ob', hq, hob, h0, qm, hqm, rfl⟩ := rel.at_ i _ hMi hg
              obtain ⟨qm', ob2, hqm', hob2, l, rfl, hl⟩ := hrd rel hMm
              rw [hqm] at hqm'; cases hqm'
              obtain ⟨q', hq', he⟩ := r.ev hx
              rw [hq] at hq'; cases hq'
              rw [h0] at he
              refine ⟨q, qm, l, h0, hq, hqm, he, hob, hob2, hl, by rw [Array.toList_filter]; exact birth_ok hl, ?_⟩
              have hall := all_born (last := last) hl
              rw [hall] at hb
              have hemp : l.isEmpty = es.isEmpty := by
                have := hl.len
                rw [← Array.isEmpty_toList]; cases es <;> cases hll : l.toList <;> simp_all
              have ha : (l.all fun e => decide (e.born ≥ last)) = l.toList.all fun e => decide (e.born ≥ last) := by rw [Array.all_toList]
              rw [hemp, ha]; simpa using hb
            split at h
            · rename_i hbirth
              split at h
              · rename_i ob s2 hr2; cases h
                obtain ⟨ab2, hh2, hcc2, hg2, hi2, hm2, hrd2⟩ := readB_ok hr2
                refine ⟨ab1.trans ab2, fun {M ρ a w} r p => ?_⟩
                obtain ⟨q, qm, l, h0, hq, hqm, he, hob, hob2, hl, hbl, hun⟩ := key r p.rel (p.cov m hi1 (ab2.R m hm1)) (p.cov i (by omega) hm2)
                rw [hbirth] at hbl
                have hleft : (l.filter fun e => !seen.toArray.contains e.born) = #[] := by apply Array.ext'; exact hbl
                refine ⟨ρ, w, .tuple #[.bool false], Tr.look p.rel (hh2.trans hh) (hcc2.trans hcc) rfl rfl rfl rfl, .inl ?_, _, rfl, _, _, rfl, rfl, rfl⟩
                simp only [execOp, ho, he, Instr.next, Sem.run_bind, getObj_any hob (by simp), Result.andThen_ok, getObj_any hob2 (by simp), hun, hleft]
                simp [choose, Sem.run, Question.forced]
              · cases h
            · rename_i e hbirth
              cases hbn : Nat.blt e.born since with
              | false => rw [hbn] at h; cases h
              | true =>
                rw [hbn] at h
                simp only [cond_true] at h
                split at h
                · rename_i s2 hs; cases h
                  have hlt : e.born < since := Nat.le_of_ble_eq_true hbn
                  obtain ⟨ab2, hi2, hm2, hcc2, tr⟩ := writeB_ok hs
                  refine ⟨ab1.trans ab2, fun {M ρ a w} r p => ?_⟩
                  obtain ⟨q, qm, l, h0, hq, hqm, he, hob, hob2, hl, hbl, hun⟩ := key r p.rel (p.cov m hi1 (ab2.R m hm1)) (p.cov i (by omega) hm2)
                  rw [hbirth] at hbl
                  obtain ⟨y, ys, hy, ⟨hy1, hy2, hy3⟩, hys⟩ := hbl
                  cases hys
                  have hleft : (l.filter fun e => !seen.toArray.contains e.born) = #[y] := by apply Array.ext'; exact hy
                  have hqlt := (Array.getElem?_eq_some_iff.1 hob).1
                  have t1 : Tr M ρ ρ s s1 w w := Tr.look p.rel hh hcc rfl rfl rfl rfl
                  have hMM : (fun i => M i ∨ new s s1 i) = M := funext fun i => propext ⟨fun hi => hi.resolve_right fun hn => by have := hn.1; have := hn.2; omega, .inl⟩
                  have t2 := tr (M := M) (ρ := ρ) (w := w) (w' := setO w q.b (.mapIter (some qm.b) since (seen ++ [e.born]).toArray clock)) (by rw [hh]; exact p.rel) (p.cov i (by omega) hm2) hq (setO_at hqlt) ⟨h0, qm, hqm, rfl⟩ (by simp [setO]) (fun b hb => setO_ne hb) rfl rfl rfl
                  refine ⟨ρ, setO w q.b (.mapIter (some qm.b) since (seen ++ [e.born]).toArray clock), .tuple #[.bool true, y.key, y.val], t1.trans ab1 ab2 (by rw [hMM]; exact t2), .inl ?_, _, rfl, _, _, rfl, rfl, _, _, rfl, hy1, _, _, rfl, hy2, rfl⟩
                  have hyb : y.born < since := by omega
                  simp only [execOp, ho, he, Instr.next, Sem.run_bind, getObj_any hob (by simp), Result.andThen_ok, getObj_any hob2 (by simp), hun, hleft]
                  have : ¬ since ≤ y.born := by omega
                  simp [choose, Sem.run, Question.forced, hyb, this, setObj_any hob (by simp)]
                  rw [hy3]
                · cases h
            · cases h
        · cases h
      · cases h
    · cases h
  · rename_i x ho
    split at h
    · rename_i i hx
      split at h
      · rename_i m since seen st s1 hr1
        obtain ⟨ab1, hh1, hc1, hg1, hi1, hm1, hrd1⟩ := readB_ok hr1
        split at h
        · rename_i es clock s2 hr2
          obtain ⟨ab2, hh2, hc2, hg2, hi2, hm2, hrd2⟩ := readB_ok hr2
          cases hb : Nat.beq clock st with
          | false => rw [hb] at h; cases h
          | true =>
            rw [hb] at h
            simp only [cond_true] at h
            split at h
            · rename_i b hlast
              split at h
              · rename_i e hf; cases h
                refine ⟨ab1.trans ab2, fun {M ρ a w} r p => ?_⟩
                obtain ⟨q, ob, hq, hob, h0, qm, hqm, rfl⟩ := hrd1 p.rel (p.cov i hi1 (ab2.R i hm1))
                obtain ⟨qm', ob2, hqm', hob2, l, rfl, hl⟩ := hrd2 (by rw [hh1]; exact p.rel) (p.cov m (by omega) hm2)
                rw [hqm] at hqm'; cases hqm'
                obtain ⟨q', hq', he⟩ := r.ev hx
                rw [hq] at hq'; cases hq'
                rw [h0] at he
                obtain ⟨y, y1, y2, y3⟩ := find_born hl hf
                refine ⟨ρ, w, .tuple #[y.key, y.val], Tr.look p.rel (hh2.trans hh1) (hc2.trans hc1) rfl rfl rfl rfl, .inl ?_, _, rfl, _, _, rfl, y2, _, _, rfl, y3, rfl⟩
                have hclk := Nat.eq_of_beq_eq_true hb
                have hbk : seen.toArray.back? = some b := by simpa using hlast
                have hfd : l.find? (fun e => e.born == b) = some y := by rw [← Array.find?_toList]; exact y1
                simp only [execOp, ho, he, Instr.entry, Sem.run_bind, getObj_any hob (by simp), Result.andThen_ok, hbk, getObj_any hob2 (by simp), hfd]
                simp [hclk]
              · cases h
            · cases h
        · cases h
      · cases h
    · cases h
  · cases h
end
end Go.Proofs.YtaacfehlcdkdhaaGreatDoor.R
namespace Go.Proofs.YtaacfehlcdkdhaaGreatDoor.R
open Go
set_option linter.unusedVariables false
set_option linter.unusedSimpArgs false
open V (pureRun pureRun_run isScalar aggOf str_size add_lit' setO made_cells flat setRow_at)

noncomputable def moveB (s : HS) (i : Nat) (o : AO) : Option HS := bif Nat.blt i s.c then (match s.h.get i with
  | some _ => (match s.h.put i none with
    | some t => (match t.put s.c (some o) with | some u => some ⟨u, Nat.succ s.c, bit (bit s.R i) s.c, bit (bit s.W i) s.c⟩ | none => none)
    | none => none)
  | none => none) else none
def isSize (T : Tab) (e sz : Nat) : Bool := match sizeA T e with | some z => Nat.beq z sz | none => false
/-- what is left of a slice, if nothing is left of it -/
noncomputable def cutX (T : Tab) (env : Tri AV) (s : HS) : Op → Option (AV × HS)
  | .slice ty x (some y) none none => (match evA env x, natE env y, T.u ty with
    | some (.so i k m q), some l, some (.slice el) => bif Nat.beq l m then (match s.h.get i with
      | some (.orow cs t sz) => bif isSize T el sz && Nat.beq k (Nat.mul q sz) && Nat.ble (Nat.add k (Nat.mul m sz)) cs.length then (match moveB s i (.orow [] t sz) with | some s' => some (.so s.c 0 0 0, s') | none => none) else none
      | _ => none) else none
    | _, _, _ => none)
  | _ => none
/-- a text out of bytes -/
def bytesA : List AV → Option (List Int)
  | [] => some []
  | .sc (.int .u8 n) :: l => (match bytesA l with | some r => some (n :: r) | none => none)
  | _ => none
noncomputable def textX (T : Tab) (env : Tri AV) (s : HS) : Op → Option (AV × HS)
  | .convert t ty x => (match T.u t, T.u ty, evA env x with
    | some (.slice e), some .string, some (.sl i k n _) => go T s e i k n
    | some (.slice e), some .string, some (.so i k n _) => go T s e i k n
    | _, _, _ => none)
  | _ => none
  where
  go (T : Tab) (s : HS) (e i k n : Nat) : Option (AV × HS) := (match T.u e, readB s i with
    | some (.int .u8), some (ob, s') => (match rowC ob with
      | some cs => (match bytesA ((cs.drop k).take n) with
        | some ns => bif Nat.beq ns.length n then some (.str (ns.map fun m => UInt8.ofNat m.toNat), s') else none
        | none => none)
      | none => none)
    | _, _ => none)
/-- the cells that are read: how many things, which cells -/
noncomputable def srcX (s : HS) (sz : Nat) : AV → Option (Nat × List AV × HS)
  | .sc (.slice none 0 _) => some (0, [], s)
  | .sl j k m _ => cut s sz j k m
  | .so j k m _ => cut s sz j k m
  | .str l => bif Nat.beq sz 1 then some (l.length, l.map (fun b => .sc (.int .u8 (.ofNat b.toNat))), s) else none
  | _ => none
  where
  cut (s : HS) (sz j k m : Nat) : Option (Nat × List AV × HS) := (match readB s j with
    | some (ob, s1) => (match rowC ob with
      | some cs => bif Nat.ble (Nat.add k (Nat.mul m sz)) cs.length then some (m, (cs.drop k).take (Nat.mul m sz), s1) else none
      | none => none)
    | none => none)
/-- a slice grows within its room -/
noncomputable def growIn (s : HS) (i at_ : Nat) (news : List AV) (v : AV) : Option (AV × HS) := match s.h.get i with
  | some ob => (match rowC ob with
    | some cs => (match ovr cs at_ news with | some cs' => (match writeB s i (rowS ob cs') with | some s' => some (v, s') | none => none) | none => none)
    | none => none)
  | none => none
noncomputable def grow (s : HS) (e sz : Nat) (m : Nat) (news : List AV) : AV → Option (AV × HS)
  | .sc (.slice none 0 0) => bif Nat.beq m 0 then some (.sc (.slice none 0 0), s) else (match newB s (.orow news e sz) with | some s' => some (.so s.c 0 m 0, s') | none => none)
  | .sl i k n c => bif Nat.ble (Nat.add n m) c then growIn s i (Nat.add k (Nat.mul n sz)) news (.sl i k (Nat.add n m) c) else (match readB s i with
    | some (ob, s1) => (match rowC ob with
      | some cs => bif Nat.ble (Nat.add k (Nat.mul n sz)) cs.length then (match newB s1 (.orow ((cs.drop k).take (Nat.mul n sz) ++ news) e sz) with | some s' => some (.so s1.c 0 (Nat.add n m) 0, s') | none => none) else none
      | none => none)
    | none => none)
  | .so i k n q => (match s.h.get i with
    | some (.orow cs e' sz') => bif Nat.beq k (Nat.mul q sz) && Nat.beq sz' sz then (bif Nat.ble (Nat.add k (Nat.mul (Nat.add n m) sz)) cs.length then growIn s i (Nat.add k (Nat.mul n sz)) news (.so i k (Nat.add n m) q)
      else bif Nat.beq cs.length (Nat.add k (Nat.mul n sz)) && Nat.beq e' e then (match moveB s i (.orow (cs.drop k ++ news) e sz) with | some s' => some (.so s.c 0 (Nat.add n m) 0, s') | none => none) else none) else none
    | _ => none)
  | _ => none
def srcT : TypeDesc → Bool | .slice _ => true | .string => true | _ => false
noncomputable def joinX (T : Tab) (env : Tri AV) (s : HS) : Op → Option (AV × HS)
  | .call { callee := .builtin .append, args := args, argTypes := ats } => (match args.toList, ats.toList with
    | [x, y], [t, t2] => (match evA env x, evA env y, T.u t, T.u t2 with
      | some u, some v, some (.slice e), some (.int _) => (match T.i e, zeroA T e, natI v with
        | some i, some zs, some m => bif Nat.beq zs.length i.size && Nat.blt 0 i.size && Nat.ble i.bytes 1000000 && Nat.ble m 1000000 && (List.replicate m zs).flatten.all cellOk && smallU u then grow s e i.size m (List.replicate m zs).flatten u else none
        | _, _, _ => none)
      | some u, some v, some (.slice e), some d2 => (match T.i e, zeroA T e with
        | some i, some zs => bif srcT d2 && Nat.beq zs.length i.size && Nat.blt 0 i.size && Nat.ble i.bytes 1000000 then (match srcX s i.size v with
            | some (m, news, s1) => bif Nat.ble m 1000000 && Nat.beq news.length (Nat.mul m i.size) && news.all cellOk && smallU u then grow s1 e i.size m news u else none
            | none => none) else none
        | _, _ => none)
      | _, _, _, _ => none)
    | _, _ => none)
  | .call { callee := .builtin .copy, args := args, argTypes := ats } => (match args.toList, ats[0]? with
    | [x, y], some t => (match evA env x, evA env y, T.u t with
      | some (.sl i k n _), some v, some (.slice e) => copy T env s e i k n v
      | some (.so i k n _), some v, some (.slice e) => copy T env s e i k n v
      | _, _, _ => none)
    | _, _ => none)
  | .call { callee := .builtin .clear, args := args, argTypes := ats } => (match args.toList, ats[0]? with
    | [x], some t => (match evA env x, T.u t with
      | some (.sl i k n _), some (.slice e) => wipe T s e i k n
      | some (.so i k n _), some (.slice e) => wipe T s e i k n
      | some (.sc (.slice none _ _)), some _ => some (.tup [], s)
      | _, _ => none)
    | _, _ => none)
  | _ => none
  where
  wipe (T : Tab) (s : HS) (e i k n : Nat) : Option (AV × HS) := (match n, zeroA T e with
    | 0, _ => some (.tup [], s)
    | Nat.succ m, some zs => bif (List.replicate (Nat.succ m) zs).flatten.all cellOk && isSize T e zs.length then growIn s i k (List.replicate (Nat.succ m) zs).flatten (.tup []) else none
    | _, _ => none)
  smallU : AV → Bool
    | .sl _ _ n _ => Nat.ble n 1000000
    | .so _ _ n _ => Nat.ble n 1000000
    | _ => true
  copy (T : Tab) (env : Tri AV) (s : HS) (e i k n : Nat) (v : AV) : Option (AV × HS) := (match sizeA T e with
    | some sz => (match srcX s sz v with
      | some (m, news, s1) => bif news.all cellOk then growIn s1 i k (news.take (Nat.mul (Nat.min m n) sz)) (.sc (.int .i64 (.ofNat (Nat.min m n)))) else none
      | none => none)
    | none => none)
end Go.Proofs.YtaacfehlcdkdhaaGreatDoor.R
namespace Go.Proofs.YtaacfehlcdkdhaaGreatDoor.R
open Go
set_option linter.unusedVariables false
set_option linter.unusedSimpArgs false
open V (pureRun pureRun_run callOk)

inductive XR where
  | val (v : AV)
  | call (f : FuncId) (args : List AV)
  | pan (v : AV)
  | dfr (f : FuncId) (args : List AV)
  | rcv
def kind : Op → Nat
  | .move _ | .assign _ | .pick .. | .makeFunc .. | .extract .. => 0
  | .alloc _ | .box .. | .load .. | .store .. | .makeMap .. | .makeSlice .. => 1
  | .lookup .. | .mapUpdate .. | .insert .. => 2
  | .buildSlice .. | .range .. | .next .. | .entry _ => 3
  | .build .. => 4
  | .field .. | .fieldAddr .. | .indexAddr .. | .index .. | .slice .. => 5
  | .makeInterface .. | .nilCheck .. | .typeAssert .. => 6
  | .binOp .. => 11
  | .call { callee := .builtin b, .. } => (match b with | .append | .copy | .clear => 7 | .len | .cap => 8 | .delete => 2 | .panic => 9 | .recover => 9 | _ => 10)
  | .call _ => 9
  | .defer _ => 9
  | .panic _ => 9
  | _ => 10
def keepS (s : HS) (v : Option AV) : Option (AV × HS) := match v with | some v => some (v, s) | none => none
def orE (v w : Option AV) : Option AV := match v with | some v => some v | none => w
noncomputable def valX (T : Tab) (env : Tri AV) (s : HS) (o : Oper) : Option (AV × HS) := match kind o.op with
  | 0 => keepS s (moveX env o.op)
  | 1 => memX T env s o.op
  | 2 => mapX T env s o.op
  | 3 => rangeX T env s o.op
  | 4 => keepS s (buildX T env o.op)
  | 5 => (match keepS s (orE (placeX T env o.op) (pureX T env o)) with | some r => some r | none => cutX T env s o.op)
  | 6 => keepS s (orE (eqX T env o.op) (pureX T env o))
  | 7 => joinX T env s o.op
  | 11 => keepS s (orE (intX env o.op) (orE (eqX T env o.op) (pureX T env o)))
  | 8 => (match placeX T env o.op with | some v => some (v, s) | none => (match mapX T env s o.op with | some r => some r | none => keepS s (pureX T env o)))
  | 10 => (match keepS s (pureX T env o) with | some r => some r | none => textX T env s o.op)
  | _ => none
/-- a method of a value in an interface -/
def methX (T : Tab) (t : TypeId) (name : String) : Option FuncId := match T.i t with
  | some i => (match i.methods.find? (·.name == name) with
    | some m => bif m.path.isEmpty then (match m.func, T.u t with
      | some (f, true), some (.pointer _) => some f
      | some (_, false), some (.pointer _) => none
      | some (f, false), some _ => some f
      | _, _ => none) else none
    | none => none)
  | none => none
noncomputable def callX (T : Tab) (env : Tri AV) : Op → Option XR
  | .call { callee := .value y, args := args, .. } => (match evA env y, moveX.evs env args.toList with
    | some (.fn (.func f) l m), some vs => bif callT T f then some (.call f (l ++ vs ++ m)) else none
    | _, _ => none)
  | .call { callee := .invoke y name, args := args, .. } => (match evA env y, moveX.evs env args.toList with
    | some (.ifc t v), some vs => (match methX T t name with | some f => bif callT T f then some (.call f (v :: vs)) else none | none => none)
    | _, _ => none)
  | .call { callee := .builtin .panic, args := args, .. } => (match args.toList with | [x] => (match evA env x with | some (.ifc t v) => some (.pan (.ifc t v)) | _ => none) | _ => none)
  | .call { callee := .builtin .recover, .. } => some .rcv
  | .panic x => (match evA env x with | some (.ifc t v) => some (.pan (.ifc t v)) | _ => none)
  | .defer { callee := .value y, args := args, .. } => (match evA env y, moveX.evs env args.toList with
    | some (.fn (.func f) l m), some vs => bif callT T f then some (.dfr f (l ++ vs ++ m)) else none
    | _, _ => none)
  | _ => none
/-- functions of Go's library without a body of Go -/
abbrev ExtF := FuncId → List AV → HS → Option (AV × HS)
noncomputable def extX (ext : ExtF) (env : Tri AV) (s : HS) : Op → Option (AV × HS)
  | .call { callee := .value y, args := args, .. } => (match evA env y, moveX.evs env args.toList with
    | some (.fn (.func f) [] []), some vs => ext f vs s
    | _, _ => none)
  | _ => none
noncomputable def xop (T : Tab) (ext : ExtF) (env : Tri AV) (s : HS) (o : Oper) : Option (XR × HS) := match kind o.op with
  | 9 => (match callX T env o.op with | some r => some (r, s) | none => (match extX ext env s o.op with | some (v, s') => some (.val v, s') | none => none))
  | _ => (match valX T env s o with | some (v, s') => some (.val v, s') | none => none)

/-! code -/
inductive Ex where
  | normal
  | exit (id : Nat)
  | ret
  | pan (v : AV)
structure Df where
  f : FuncId
  args : List AV
structure St where
  env : Tri AV
  s : HS
  d : List Df
/-- is an operation asked for? -/
noncomputable def wantA (ops : List Oper) (env : Tri AV) (o : Oper) : Option Bool := match o.guard with
  | none => some true
  | some (j, want) => (match ops[j]? with
    | some g => (match g.dst with
      | some d => (match env.get d with
        | some (.sc (.bool b)) => some (bif b then want else !want)
        | some (.tup []) => some false
        | _ => none)
      | none => none)
    | none => none)
noncomputable def putA (n : Nat) (env : Tri AV) (d : Option Nat) (v : AV) : Option (Tri AV) := match d with
  | none => some env
  | some d => bif Nat.blt d n then env.put d (some v) else none
/-- who must be ahead of whom -/
def preds (ops : List Oper) : List Nat := go ops []
  where
  go : List Oper → List Nat → List Nat
    | [], acc => acc
    | o :: l, acc => go l (acc ++ [o.after.toList.foldl (fun m e => bif Region.binds .any e then Nat.lor m (Nat.lor (Nat.shiftLeft 1 e.on) (acc.getD e.on 0)) else m) 0])
def onesOk (ops : List Oper) : Bool := go ops 0
  where
  go : List Oper → Nat → Bool
    | [], _ => true
    | o :: l, i => o.after.toList.all (fun e => !Region.binds .any e || Nat.blt e.on i) && noSel o.op && go l (Nat.succ i)
/-- the slots that an operation looks at -/
def opTmps : List Operand → List Nat
  | [] => []
  | .tmp t :: l => t :: opTmps l
  | _ :: l => opTmps l
def lookL (ops : List Oper) (o : Oper) : List Nat := match o.guard with
  | some (j, _) => (match ops[j]? with
    | some g => (match g.dst with | some d => d :: opTmps o.op.operands.toList | none => opTmps o.op.operands.toList)
    | none => opTmps o.op.operands.toList)
  | none => opTmps o.op.operands.toList
noncomputable def pickE (env : Tri AV) (l : List Nat) : Tri AV := List.rec (motive := fun _ => Tri AV) .nil
  (fun t _ ih => match env.get t with | some v => (match ih.put t (some v) with | some e => e | none => ih) | none => ih) l
/-- unordered operations do not meet at a slot -/
def maskL : List Nat → Nat | [] => 0 | i :: l => bit (maskL l) i
def maskD : Option Nat → Nat | none => 0 | some d => bit 0 d
def clear1 (pm u d : Nat) : List (Nat × Nat) → Nat → Bool
  | [], _ => true
  | q :: l, j => (Nat.testBit pm j || (Nat.beq (Nat.land (Nat.lor u d) q.2) 0 && Nat.beq (Nat.land q.1 d) 0)) && clear1 pm u d l (Nat.succ j)
def slotsOk (ops : List Oper) : Bool := go ops (preds ops) []
  where
  go : List Oper → List Nat → List (Nat × Nat) → Bool
    | [], _, _ => true
    | o :: l, pm :: pms, acc => clear1 pm (maskL (lookL ops o)) (maskD o.dst) acc 0 && go l pms (acc ++ [(maskL (lookL ops o), maskD o.dst)])
    | _ :: _, [], _ => false
/-- a loud operation: its number, what it looked at, what it changed -/
abbrev Loud := List (Nat × Nat × Nat)
def clash (pm : Nat) (R W : Nat) : Loud → Bool
  | [] => false
  | (j, R', W') :: l => (!(Nat.testBit pm j) && !(Nat.beq (Nat.land W (Nat.lor R' W')) 0 && Nat.beq (Nat.land R W') 0)) || clash pm R W l
abbrev CallF := FuncId → List AV → HS → Option (Sum AV AV × HS)
noncomputable def stepO (T : Tab) (ext : ExtF) (call : CallF) (n : Nat) (st : St) (o : Oper) : Option (Option AV × St) := match xop T ext st.env st.s o with
  | some (.val v, s') => (match putA n st.env o.dst v with | some e => some (none, ⟨e, s', st.d⟩) | none => none)
  | some (.call f args, s') => (match call f args s' with
    | some (.inl v, s2) => (match putA n st.env o.dst v with | some e => some (none, ⟨e, s2, st.d⟩) | none => none)
    | some (.inr v, s2) => some (some v, ⟨st.env, s2, st.d⟩)
    | none => none)
  | some (.pan v, s') => some (some v, ⟨st.env, s', st.d⟩)
  | some (.dfr f args, s') => (match putA n st.env o.dst (.tup []) with | some e => some (none, ⟨e, s', ⟨f, args⟩ :: st.d⟩) | none => none)
  | _ => none
noncomputable def runOps (T : Tab) (ext : ExtF) (call : CallF) (n : Nat) (ops : List Oper) (l : List Oper) : St → Option (Ex × St) := List.rec (motive := fun _ => St → Option (Ex × St)) (fun st => some (.normal, st))
  (fun o _ ih st => (match wantA ops st.env o with
    | some true => (match stepO T ext call n st o with
      | some (none, st') => ih st'
      | some (some v, st') => some (.pan v, st')
      | none => none)
    | some false => (match putA n st.env o.dst (.tup []) with | some e => ih ⟨e, st.s, st.d⟩ | none => none)
    | none => none)) l
/-- a value, without a panic -/
noncomputable def stepV (T : Tab) (ext : ExtF) (call : CallF) (env : Tri AV) (s : HS) (o : Oper) : Option (AV × HS) := match xop T ext env s o with
  | some (.val v, s') => some (v, s')
  | some (.call f args, s') => (match call f args s' with | some (.inl v, s2) => some (v, s2) | _ => none)
  | _ => none
/-- in a region that draws its order: no panic, and none that meet -/
noncomputable def runDrawn (T : Tab) (ext : ExtF) (call : CallF) (n : Nat) (ops : List Oper) (l : List Oper) : List Nat → Nat → Loud → St → Option St := List.rec (motive := fun _ => List Nat → Nat → Loud → St → Option St) (fun _ _ _ st => some st)
  (fun o _ ih pms i loud st => (match pms with
    | [] => none
    | pm :: pms => (match wantA ops st.env o with
      | some true => (match stepV T ext call (pickE st.env (lookL ops o)) ⟨st.s.h, st.s.c, 0, 0⟩ o with
        | some (v, s') => bif clash pm s'.R s'.W loud then none else (match putA n st.env o.dst v with
          | some e => ih pms (Nat.succ i) (bif Nat.beq (Nat.lor s'.R s'.W) 0 then loud else (i, s'.R, s'.W) :: loud) ⟨e, ⟨s'.h, s'.c, Nat.lor st.s.R s'.R, Nat.lor st.s.W s'.W⟩, st.d⟩
          | none => none)
        | none => none)
      | some false => (match putA n st.env o.dst (.tup []) with | some e => ih pms (Nat.succ i) loud ⟨e, st.s, st.d⟩ | none => none)
      | none => none))) l
noncomputable def runC (T : Tab) (ext : ExtF) (call : CallF) (n : Nat) (fuel : Nat) : Code → St → Option (Ex × St) := Nat.rec (motive := fun _ => Code → St → Option (Ex × St)) (fun _ _ => none)
  (fun _ ih c st => (match c with
    | .skip => some (.normal, st)
    | .label _ => some (.normal, st)
    | .exit id => some (.exit id, st)
    | .ret => some (.ret, st)
    | .region _ ops false => runOps T ext call n ops.toList ops.toList st
    | .region _ ops true => bif onesOk ops.toList && slotsOk ops.toList then (match runDrawn T ext call n ops.toList ops.toList (preds ops.toList) 0 [] st with | some st' => some (.normal, st') | none => none) else none
    | .seq a b => (match ih a st with
      | some (.normal, st') => ih b st'
      | r => r)
    | .cond x a b => (match evA st.env x with
      | some (.sc (.bool true)) => ih a st
      | some (.sc (.bool false)) => ih b st
      | _ => none)
    | .block id a => (match ih a st with
      | some (.exit j, st') => bif Nat.beq j id then some (.normal, st') else some (.exit j, st')
      | r => r)
    | .loop a => (match ih a st with
      | some (.normal, st') => ih (.loop a) st'
      | r => r)
    | .scope a => ih a st
    | _ => none)) fuel
noncomputable def env0 : List AV → Nat → Tri AV → Option (Tri AV)
  | [], _, e => some e
  | v :: l, i, e => (match e.put i (some v) with | some e' => env0 l (Nat.succ i) e' | none => none)
noncomputable def resV (T : Tab) (env : Tri AV) (s : HS) : ResultVar → Option (AV × HS)
  | .tmp t => (match env.get t with | some v => some (v, s) | none => none)
  | .cell x t => (match env.get x with
    | some (.ptr i k) => (match readB s i with
      | some (o, s') => (match rowC o with
        | some cs => (match partA T t cs k with | some v => some (v, s') | none => none)
        | none => none)
      | none => none)
    | _ => none)
noncomputable def resVs (T : Tab) (env : Tri AV) : List ResultVar → HS → Option (List AV × HS)
  | [], s => some ([], s)
  | r :: l, s => (match resV T env s r with
    | some (v, s1) => (match resVs T env l s1 with | some (vs, s2) => some (v :: vs, s2) | none => none)
    | none => none)
def outA : List AV → AV
  | [v] => v
  | l => .tup l
/-- how a frame is left: it returns, or it panics, or a panic of it was taken back -/
inductive Md where
  | ret
  | pan (v : AV)
  | took (v : AV)
/-- code of a deferred function: it may take a panic back -/
noncomputable def runOpsS (T : Tab) (ext : ExtF) (call : CallF) (n : Nat) (ops : List Oper) : List Oper → Md → St → Option (Md × St)
  | [], m, st => some (m, st)
  | o :: l, m, st => (match wantA ops st.env o with
    | some true => (match xop T ext st.env st.s o with
      | some (.rcv, _) => (match m with
        | .pan v => (match putA n st.env o.dst v with | some e => runOpsS T ext call n ops l (.took v) ⟨e, st.s, st.d⟩ | none => none)
        | _ => (match putA n st.env o.dst (.sc .nilIface) with | some e => runOpsS T ext call n ops l m ⟨e, st.s, st.d⟩ | none => none))
      | _ => (match stepO T ext call n st o with
        | some (none, st') => runOpsS T ext call n ops l m st'
        | _ => none))
    | some false => (match putA n st.env o.dst (.tup []) with | some e => runOpsS T ext call n ops l m ⟨e, st.s, st.d⟩ | none => none)
    | none => none)
/-- only what is left normally -/
noncomputable def runS (T : Tab) (ext : ExtF) (call : CallF) (n : Nat) : Nat → Code → Md → St → Option (Md × St)
  | 0, _, _, _ => none
  | f + 1, c, m, st => (match c with
    | .skip => some (m, st)
    | .region _ ops false => runOpsS T ext call n ops.toList ops.toList m st
    | .seq a b => (match runS T ext call n f a m st with
      | some (m', st') => runS T ext call n f b m' st'
      | none => none)
    | .cond x a b => (match evA st.env x with
      | some (.sc (.bool true)) => runS T ext call n f a m st
      | some (.sc (.bool false)) => runS T ext call n f b m st
      | _ => none)
    | _ => none)
noncomputable def callD (T : Tab) (ext : ExtF) (call : CallF) (d : Df) (m : Md) (s : HS) : Option (Md × HS) := (match T.f d.f with
  | some fn => (match fn.body with
    | some c => (match env0 d.args 0 .nil with
      | some e => bif callT T d.f && Nat.ble d.args.length fn.ntmps && fn.results.isEmpty then (match runS T ext call fn.ntmps 1000 c m ⟨e, s, []⟩ with
        | some (m', st) => (match st.d with | [] => some (m', st.s) | _ => none)
        | none => none) else none
      | none => none)
    | none => none)
  | none => none)
def settleM : Md → Md | .took _ => .ret | m => m
noncomputable def leave (T : Tab) (ext : ExtF) (call : CallF) : List Df → Md → HS → Option (Md × HS)
  | [], m, s => some (m, s)
  | d :: ds, m, s => (match callD T ext call d m s with
    | some (m', s') => leave T ext call ds (settleM m') s'
    | none => none)
noncomputable def fin (T : Tab) (ext : ExtF) (call : CallF) (fn : Func) (m : Md) (st : St) : Option (Sum AV AV × HS) := (match leave T ext call st.d m st.s with
  | some (.ret, s) => (match resVs T st.env fn.results.toList s with | some (vs, s') => some (.inl (outA vs), s') | none => none)
  | some (.pan v, s) => some (.inr v, s)
  | _ => none)
/-- a call -/
noncomputable def runF (T : Tab) (ext : ExtF) (prim : FuncId → List AV → HS → Option (Option (Sum AV AV × HS))) (fuel : Nat) : CallF := Nat.rec (motive := fun _ => CallF) (fun _ _ _ => none)
  (fun _ call fid args s => (match prim fid args s with
    | some r => r
    | none => (match T.f fid with
      | some fn => (match fn.body with
        | some c => (match env0 args 0 .nil with
          | some e => bif Nat.ble args.length fn.ntmps then (match runC T ext call fn.ntmps 100000 c ⟨e, s, []⟩ with
            | some (.normal, st) => fin T ext call fn .ret st
            | some (.ret, st) => fin T ext call fn .ret st
            | some (.pan v, st) => fin T ext call fn (.pan v) st
            | _ => none) else none
          | none => none)
        | none => none)
      | none => none))) fuel
/-! the tables as trees -/
def evs {α : Type} : List α → List α
  | [] => []
  | [x] => [x]
  | x :: _ :: l => x :: evs l
def ods {α : Type} : List α → List α
  | [] => []
  | [_] => []
  | _ :: y :: l => y :: ods l
def triL {α : Type} : Nat → List α → Tri α
  | 0, _ => .nil
  | _ + 1, [] => .nil
  | f + 1, x :: l => .node (triL f (evs l)) (some x) (triL f (ods l))
theorem evs_get {α : Type} : ∀ (l : List α) (k : Nat), (evs l)[k]? = l[2 * k]?
  | [], k => by simp [evs]
  | [x], k => by cases k <;> simp [evs]
  | x :: y :: l, 0 => by simp [evs]
  | x :: y :: l, k + 1 => by rw [show 2 * (k + 1) = 2 * k + 1 + 1 by omega]; simp [evs, evs_get l k]
theorem ods_get {α : Type} : ∀ (l : List α) (k : Nat), (ods l)[k]? = l[2 * k + 1]?
  | [], k => by simp [ods]
  | [x], k => by cases k <;> simp [ods]
  | x :: y :: l, 0 => by simp [ods]
  | x :: y :: l, k + 1 => by rw [show 2 * (k + 1) + 1 = 2 * k + 1 + 1 + 1 by omega]; simp [ods, ods_get l k]
theorem evs_len {α : Type} : ∀ l : List α, 2 * (evs l).length ≤ l.length + 1
  | [] => by simp [evs]
  | [x] => by simp [evs]
  | x :: y :: l => by have := evs_len l; simp [evs]; omega
theorem ods_len {α : Type} : ∀ l : List α, 2 * (ods l).length ≤ l.length
  | [] => by simp [ods]
  | [x] => by simp [ods]
  | x :: y :: l => by have := ods_len l; simp [ods]; omega
theorem triL_get {α : Type} : ∀ (f : Nat) (l : List α) (n : Nat), l.length < 2 ^ f → (triL f l).get n = l[n]?
  | 0, l, n, h => by
    have : l = [] := List.eq_nil_of_length_eq_zero (by simpa using h)
    subst this; rfl
  | f + 1, [], n, _ => by simp [triL]; rfl
  | f + 1, x :: l, n, h => by
    simp only [List.length_cons, Nat.pow_succ] at h
    have h1 := evs_len l
    have h2 := ods_len l
    simp only [triL]
    by_cases h0 : n = 0
    · subst h0; rfl
    · rcases Nat.mod_two_eq_zero_or_one n with h3 | h3
      · rw [Tri.get_rt _ h0 h3]
        show (triL f (ods l)).get (n / 2 - 1) = _
        rw [triL_get f _ _ (by omega), ods_get]
        obtain ⟨m, rfl⟩ : ∃ m, n = m + 1 := ⟨n - 1, by omega⟩
        rw [show 2 * ((m + 1) / 2 - 1) + 1 = m by omega]
        simp
      · rw [Tri.get_lf _ h0 h3]
        show (triL f (evs l)).get (n / 2) = _
        rw [triL_get f _ _ (by omega), evs_get]
        obtain ⟨m, rfl⟩ : ∃ m, n = m + 1 := ⟨n - 1, by omega⟩
        rw [show 2 * ((m + 1) / 2) = m by omega]
        simp
end Go.Proofs.YtaacfehlcdkdhaaGreatDoor.R
