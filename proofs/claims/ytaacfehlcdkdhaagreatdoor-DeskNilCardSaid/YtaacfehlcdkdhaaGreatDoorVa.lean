/- My own verifier's ground: slots as an association list, memory as a list of separate items, over any program. Generic: nothing of the dump. -/
import Derived.WalkKit
import Derived.WalkLawsBesides
import Derived.Orders
import Derived.Scope
namespace Go.Proofs.YtaacfehlcdkdhaaGreatDoor.V
open Go

abbrev Env := List (Nat × Value)
def look : Env → Nat → Option Value
  | [], _ => none
  | p :: l, i => bif Nat.beq p.1 i then some p.2 else look l i

structure Rep (n : Nat) (env : Env) (a : Act) : Prop where
  size : a.tmps.size = n
  nod : a.defers = []
  get : ∀ i v, look env i = some v → a.tmps.getD i undef = v

def ev (env : Env) : Operand → Option Value
  | .tmp t => look env t
  | .const v => some v
  | .global g => some (.pointer (some ⟨g, 0, none⟩))
  | .func f => some (.func (.func f) #[] #[])
def evD (env : Env) (x : Operand) : Value := (ev env x).getD undef

theorem Rep.ev {n : Nat} {env : Env} {a : Act} {x : Operand} {v : Value} (h : Rep n env a) (hx : ev env x = some v) : a.eval x = v := by
  cases x with
  | tmp t => exact h.get t v hx
  | const u => simpa [V.ev, Act.eval] using hx
  | global g => simpa [V.ev, Act.eval] using hx
  | func f => simpa [V.ev, Act.eval] using hx

theorem look_put {env : Env} {d i : Nat} {v u : Value} (h : look ((d, v) :: env) i = some u) : (d = i ∧ v = u) ∨ (d ≠ i ∧ look env i = some u) := by
  simp only [look] at h
  cases hb : Nat.beq d i with
  | true => rw [hb] at h; exact .inl ⟨Nat.eq_of_beq_eq_true hb, by simpa using h⟩
  | false => rw [hb] at h; exact .inr ⟨Nat.ne_of_beq_eq_false hb, by simpa using h⟩

theorem Rep.put {n : Nat} {env : Env} {a : Act} {d : Nat} {v : Value} (h : Rep n env a) (hd : d < n) : Rep n ((d, v) :: env) (a.put (some d) v) := by
  refine ⟨by simp [Act.put, h.size], by simpa [Act.put] using h.nod, fun i u hu => ?_⟩
  rcases look_put hu with ⟨rfl, rfl⟩ | ⟨hne, hl⟩
  · simp [Act.put, h.size, hd]
  · have := h.get i u hl
    simp only [Act.put, Array.getD_eq_getD_getElem?] at this ⊢
    rw [Array.getElem?_setIfInBounds_ne hne]; exact this
theorem Rep.put_none {n : Nat} {env : Env} {a : Act} {v : Value} (h : Rep n env a) : Rep n env (a.put none v) := h
theorem Rep.nil {n : Nat} {env : Env} {a : Act} (h : Rep n env a) : Rep n [] a := ⟨h.size, h.nod, fun _ _ h => by simp [look] at h⟩
theorem Rep.cons {n : Nat} {env env' : Env} {a : Act} {d : Nat} {v : Value} (h : Rep n env a) (hl : look env d = some v) (h' : Rep n env' a) : Rep n ((d, v) :: env') a := by
  refine ⟨h.size, h.nod, fun i u hu => ?_⟩
  rcases look_put hu with ⟨rfl, rfl⟩ | ⟨_, hl'⟩
  · exact h.get d v hl
  · exact h'.get i u hl'
/-- every entry of env' is env's -/
def sub (env : Env) : Env → Prop
  | [] => True
  | p :: l => look env p.1 = some p.2 ∧ sub env l
theorem Rep.sub {n : Nat} {env : Env} {a : Act} (h : Rep n env a) : ∀ {env' : Env}, sub env env' → Rep n env' a
  | [], _ => h.nil
  | _ :: _, hs => h.cons hs.1 (h.sub hs.2)

/-- what may have turned: the blocks in S, and what is new -/
structure Fr (S : List Nat) (w w' : World) : Prop where
  os : w'.os = w.os
  tape : w'.tape = w.tape
  output : w'.output = w.output
  size : w.heap.size ≤ w'.heap.size
  block : ∀ k, k < w.heap.size → k ∉ S → w'.heap[k]? = w.heap[k]?
theorem Fr.refl (S : List Nat) (w : World) : Fr S w w := ⟨rfl, rfl, rfl, Nat.le_refl _, fun _ _ _ => rfl⟩
theorem Fr.trans {S : List Nat} {a b c : World} (h : Fr S a b) (k : Fr S b c) : Fr S a c :=
  ⟨k.os.trans h.os, k.tape.trans h.tape, k.output.trans h.output, Nat.le_trans h.size k.size, fun i hi hS => (k.block i (Nat.lt_of_lt_of_le hi h.size) hS).trans (h.block i hi hS)⟩
theorem Fr.trans' {S T : List Nat} {a b c : World} (h : Fr S a b) (k : Fr T b c) (hT : ∀ x ∈ T, x ∈ S ∨ a.heap.size ≤ x) : Fr S a c :=
  ⟨k.os.trans h.os, k.tape.trans h.tape, k.output.trans h.output, Nat.le_trans h.size k.size, fun i hi hS => (k.block i (Nat.lt_of_lt_of_le hi h.size) (fun hm => by
    rcases hT i hm with h1 | h1
    · exact hS h1
    · omega)).trans (h.block i hi hS)⟩
theorem Fr.mono {S T : List Nat} {a b : World} (h : Fr S a b) (hS : ∀ x ∈ S, x ∈ T) : Fr T a b := ⟨h.os, h.tape, h.output, h.size, fun k hk hT => h.block k hk (fun hm => hT (hS k hm))⟩
theorem Fr.drew (S : List Nat) (w : World) : Fr S w { w with drawn := w.drawn + 1 } := ⟨rfl, rfl, rfl, Nat.le_refl _, fun _ _ _ => rfl⟩
theorem Fr.alloc (S : List Nat) (w : World) (o : Obj) : Fr S w (w.alloc o) := ⟨rfl, rfl, rfl, by simp, fun k hk _ => Go.RowKit.Below.heap_alloc w o k hk⟩
theorem Fr.below {w w' : World} (h : Fr [] w w') : Go.RowKit.Below w.heap.size w w' := ⟨h.os, h.tape, h.output, h.size, fun k hk => h.block k hk (by simp)⟩
theorem Fr.of_below {w w' : World} (h : Go.RowKit.Below w.heap.size w w') : Fr [] w w' := ⟨h.os, h.tape, h.output, h.size, fun k hk _ => h.block k hk⟩

structure Item where
  foot : List Nat
  holds : World → Prop
  loc : ∀ w w', (∀ b ∈ foot, w'.heap[b]? = w.heap[b]?) → holds w → holds w'
  here : ∀ w, holds w → ∀ b ∈ foot, b < w.heap.size
  row : Option (Nat × List Value × TypeId) := none
  rowOk : ∀ b cs t, row = some (b, cs, t) → foot = [b] ∧ ∀ w, holds w → w.heap[b]? = some (.cells cs.toArray t (0, 0)) := by intro b cs t h; cases h

def blk (b : Nat) (cs : List Value) (t : TypeId) : Item where
  foot := [b]
  holds w := w.heap[b]? = some (.cells cs.toArray t (0, 0))
  loc w w' h hw := by rw [h b (by simp)]; exact hw
  here w hw c hc := by
    simp at hc; subst hc
    exact (Array.getElem?_eq_some_iff.1 hw).1
  row := some (b, cs, t)
  rowOk _ _ _ h := by cases h; exact ⟨rfl, fun _ h => h⟩
/-- a map's block -/
def mblk (b : Nat) (es : Array MapEntry) (clock : Nat) : Item where
  foot := [b]
  holds w := w.heap[b]? = some (.map es clock)
  loc w w' h hw := by rw [h b (by simp)]; exact hw
  here w hw c hc := by
    simp at hc; subst hc
    exact (Array.getElem?_eq_some_iff.1 hw).1

def feet (H : List Item) : List Nat := H.flatMap (·.foot)

structure HS (w0 : World) (S : List Nat) (H : List Item) (w : World) : Prop where
  fr : Fr S w0 w
  all : ∀ it ∈ H, it.holds w
  nodup : (feet H).Nodup
  own : ∀ b ∈ feet H, b ∈ S ∨ w0.heap.size ≤ b

theorem HS.kept {w0 : World} {S : List Nat} {H : List Item} {w w' : World} (h : HS w0 S H w) (f : Fr [] w w') : HS w0 S H w' := by
  refine ⟨h.fr.trans' f (by simp), fun it hi => ?_, h.nodup, h.own⟩
  refine it.loc w w' (fun b hb => f.block b (it.here w (h.all it hi) b hb) (by simp)) (h.all it hi)
theorem HS.mem {w0 : World} {S : List Nat} {H : List Item} {w : World} (h : HS w0 S H w) {i : Nat} {it : Item} (hi : H[i]? = some it) : it.holds w := h.all it (List.mem_of_getElem? hi)
theorem HS.nil (w : World) : HS w [] [] w := ⟨Fr.refl _ _, by simp, by simp [feet], by simp [feet]⟩
theorem HS.start (w : World) (H : List Item) (h : ∀ it ∈ H, it.holds w) (hn : (feet H).Nodup) : HS w (feet H) H w := ⟨Fr.refl _ _, h, hn, fun _ hb => .inl hb⟩

theorem feet_append (H K : List Item) : feet (H ++ K) = feet H ++ feet K := by simp [feet]
/-- a new item whose feet are all new -/
theorem HS.add {w0 : World} {S : List Nat} {H : List Item} {w w' : World} {it : Item} (h : HS w0 S H w) (f : Fr [] w w') (hi : it.holds w') (hn : it.foot.Nodup) (hnew : ∀ b ∈ it.foot, w.heap.size ≤ b) : HS w0 S (H ++ [it]) w' := by
  have hk := h.kept f
  have hlt : ∀ b ∈ feet H, b < w.heap.size := fun b hb => by
    obtain ⟨jt, hj, hb'⟩ := List.mem_flatMap.1 hb
    exact jt.here w (h.all jt hj) b hb'
  refine ⟨hk.fr, fun jt hj => ?_, ?_, fun b hb => ?_⟩
  · rcases List.mem_append.1 hj with hj | hj
    · exact hk.all jt hj
    · simp at hj; subst hj; exact hi
  · rw [feet_append]
    refine List.nodup_append.2 ⟨h.nodup, by simpa [feet] using hn, fun x hx y hy => ?_⟩
    have h1 := hlt x hx
    have h2 := hnew y (by simpa [feet] using hy)
    omega
  · rw [feet_append] at hb
    rcases List.mem_append.1 hb with hb | hb
    · exact h.own b hb
    · right
      have h2 := hnew b (by simpa [feet] using hb)
      have := h.fr.size
      omega
/-- the item at place i is turned into another; its feet are the old ones or new ones -/
theorem HS.turn {w0 : World} {S : List Nat} {H : List Item} {w w' : World} {i : Nat} {it jt : Item} (h : HS w0 S H w) (hi : H[i]? = some it) (f : Fr it.foot w w') (hj : jt.holds w') (hn : jt.foot.Nodup)
    (hsub : ∀ b ∈ jt.foot, b ∈ it.foot ∨ w.heap.size ≤ b) : HS w0 S (H.set i jt) w' := by
  obtain ⟨hlt, hget⟩ := List.getElem?_eq_some_iff.1 hi
  have hsplit : H = H.take i ++ it :: H.drop (i + 1) := by
    rw [← hget, List.getElem_cons_drop, List.take_append_drop]
  have hset : H.set i jt = H.take i ++ jt :: H.drop (i + 1) := by
    rw [List.set_eq_take_append_cons_drop, if_pos hlt]
  have hfoot : feet H = feet (H.take i) ++ (it.foot ++ feet (H.drop (i + 1))) := by
    conv => lhs; rw [hsplit]
    simp [feet]
  have hfoot' : feet (H.set i jt) = feet (H.take i) ++ (jt.foot ++ feet (H.drop (i + 1))) := by
    rw [hset]; simp [feet]
  have hltb : ∀ b ∈ feet H, b < w.heap.size := fun b hb => by
    obtain ⟨kt, hk, hb'⟩ := List.mem_flatMap.1 hb
    exact kt.here w (h.all kt hk) b hb'
  have hnd := h.nodup
  rw [hfoot] at hnd
  obtain ⟨n1, n2, n3⟩ := List.nodup_append.1 hnd
  obtain ⟨n4, n5, n6⟩ := List.nodup_append.1 n2
  have hitm : it ∈ H := List.mem_of_getElem? hi
  have hmem1 : ∀ kt ∈ H.take i, kt ∈ H := fun kt hk => List.mem_of_mem_take hk
  have hmem2 : ∀ kt ∈ H.drop (i + 1), kt ∈ H := fun kt hk => List.mem_of_mem_drop hk
  have hfree1 : ∀ kt ∈ H.take i, ∀ b ∈ kt.foot, b ∉ it.foot := fun kt hk b hb hb' =>
    n3 b (List.mem_flatMap.2 ⟨kt, hk, hb⟩) b (List.mem_append.2 (.inl hb')) rfl
  have hfree2 : ∀ kt ∈ H.drop (i + 1), ∀ b ∈ kt.foot, b ∉ it.foot := fun kt hk b hb hb' =>
    n6 b hb' b (List.mem_flatMap.2 ⟨kt, hk, hb⟩) rfl
  have hkeep : ∀ kt ∈ H, (∀ b ∈ kt.foot, b ∉ it.foot) → kt.holds w' := fun kt hk hfr =>
    kt.loc w w' (fun b hb => f.block b (kt.here w (h.all kt hk) b hb) (hfr b hb)) (h.all kt hk)
  have hitown : ∀ x ∈ it.foot, x ∈ S ∨ w0.heap.size ≤ x := fun x hx => h.own x (by rw [hfoot]; simp [hx])
  refine ⟨h.fr.trans' f hitown, fun kt hk => ?_, ?_, fun b hb => ?_⟩
  · rw [hset] at hk
    rcases List.mem_append.1 hk with hk | hk
    · exact hkeep kt (hmem1 kt hk) (hfree1 kt hk)
    · rcases List.mem_cons.1 hk with rfl | hk
      · exact hj
      · exact hkeep kt (hmem2 kt hk) (hfree2 kt hk)
  · rw [hfoot']
    refine List.nodup_append.2 ⟨n1, List.nodup_append.2 ⟨hn, n5, fun x hx y hy => ?_⟩, fun x hx y hy => ?_⟩
    · rcases hsub x hx with h1 | h1
      · exact n6 x h1 y hy
      · have := hltb y (by rw [hfoot]; simp [hy]); omega
    · have hxl := hltb x (by rw [hfoot]; simp [hx])
      rcases List.mem_append.1 hy with hy | hy
      · rcases hsub y hy with h1 | h1
        · exact n3 x hx y (List.mem_append.2 (.inl h1))
        · omega
      · exact n3 x hx y (List.mem_append.2 (.inr hy))
  · rw [hfoot'] at hb
    rcases List.mem_append.1 hb with hb | hb
    · exact h.own b (by rw [hfoot]; simp [hb])
    · rcases List.mem_append.1 hb with hb | hb
      · rcases hsub b hb with h1 | h1
        · exact hitown b h1
        · right; have := h.fr.size; omega
      · exact h.own b (by rw [hfoot]; simp [hb])
theorem feet_sublist {K H : List Item} (hs : List.Sublist K H) : List.Sublist (feet K) (feet H) := by
  induction hs with
  | slnil => exact List.Sublist.refl _
  | cons a _ ih => exact ih.trans (List.sublist_append_right _ _)
  | cons_cons a _ ih => exact List.Sublist.append (List.Sublist.refl _) ih
theorem HS.sub {w0 : World} {S : List Nat} {H K : List Item} {w : World} (h : HS w0 S H w) (hs : List.Sublist K H) : HS w0 S K w :=
  ⟨h.fr, fun it hi => h.all it (hs.subset hi), h.nodup.sublist (feet_sublist hs), fun b hb => h.own b ((feet_sublist hs).subset hb)⟩
theorem HS.perm {w0 : World} {S : List Nat} {H K : List Item} {w : World} (h : HS w0 S H w) (hp : List.Perm H K) : HS w0 S K w :=
  ⟨h.fr, fun it hi => h.all it (hp.mem_iff.2 hi), (hp.flatMap_right _).nodup_iff.1 h.nodup, fun b hb => h.own b ((hp.flatMap_right _).mem_iff.2 hb)⟩

/-- from every frame that reads as env, in every world that has the items H -/
def A (n : Nat) (env : Env) (w0 : World) (S : List Nat) (H : List Item) (G : Act → World → Prop) : Prop := ∀ a w, Rep n env a → HS w0 S H w → G a w

end Go.Proofs.YtaacfehlcdkdhaaGreatDoor.V
