/- My own verifier's ground: slots as an association list, memory as a list of separate items, over any program. Generic: nothing of the dump. My own verifier's rules: control, single operations, calls, loops. Generic: nothing of the dump. My own verifier's rule for a region that draws its order: whatever order comes up. Generic: nothing of the dump. My own verifier: '==' between flat values, reckoned by the program's types. Generic: nothing of the dump. My own verifier: slices. What a slice reads as; a slice that the call owns: read, cut, appended to, stored into. Generic: nothing of the dump. My own verifier: what came in, as lists. Generic: nothing of the dump. My own verifier: a callee walked in its caller's place; loops unrolled. Generic: nothing of the dump. My own verifier: what came in, of any flat type (structs and arrays of numbers, truths and texts), alone or in a slice. Generic: nothing of the dump. My own verifier: many operations at one step: a run by hints, reckoned by the kernel. Generic: nothing of the dump. My own verifier: why a run by hints (Vx) tells what the operations do. Generic: nothing of the dump. My own verifier: the rules for a batch of operations, in a straight region and in one that draws its order. Generic: nothing of the dump. My own verifier: batches: the rules that a proof uses, for straight regions and for those that draw their order. Generic: nothing of the dump. -/
import Derived.WalkKit
import Derived.WalkLawsBesides
import Derived.Orders
import Derived.Scope
import Derived.Laws.StructEq
import Derived.Laws.Strings
import Derived.OpenShut
import Derived.Deep.Slices
import Derived.Lib.Strings
namespace Go.Proofs.Ytinnnoimmioaiaa.V
open Go

abbrev Env := List (Nat × Value)
def look : Env → Nat → Option Value
  | [], _ => none
  | p :: l, i => bif Nat.beq p.1 i then some p.2 else look l i

structure Rep (n : Nat) (env : Env) (a : Act) : Prop where
  size : a.tmps.size = n
  nod : a.defers = []
  get : ∀ i v, look env i = some v → a.tmps.getD i undef = v

def ev (env : Env) : Operand → Option Value
  | .tmp t => look env t
  | .const v => some v
  | .global g => some (.pointer (some ⟨g, 0, none⟩))
  | .func f => some (.func (.func f) #[] #[])
def evD (env : Env) (x : Operand) : Value := (ev env x).getD undef

theorem Rep.ev {n : Nat} {env : Env} {a : Act} {x : Operand} {v : Value} (h : Rep n env a) (hx : ev env x = some v) : a.eval x = v := by
  cases x with
  | tmp t => exact h.get t v hx
  | const u => simpa [V.ev, Act.eval] using hx
  | global g => simpa [V.ev, Act.eval] using hx
  | func f => simpa [V.ev, Act.eval] using hx

theorem look_put {env : Env} {d i : Nat} {v u : Value} (h : look ((d, v) :: env) i = some u) : (d = i ∧ v = u) ∨ (d ≠ i ∧ look env i = some u) := by
  simp only [look] at h
  cases hb : Nat.beq d i with
  | true => rw [hb] at h; exact .inl ⟨Nat.eq_of_beq_eq_true hb, by simpa using h⟩
  | false => rw [hb] at h; exact .inr ⟨Nat.ne_of_beq_eq_false hb, by simpa using h⟩

theorem Rep.put {n : Nat} {env : Env} {a : Act} {d : Nat} {v : Value} (h : Rep n env a) (hd : d < n) : Rep n ((d, v) :: env) (a.put (some d) v) := by
  refine ⟨by simp [Act.put, h.size], by simpa [Act.put] using h.nod, fun i u hu => ?_⟩
  rcases look_put hu with ⟨rfl, rfl⟩ | ⟨hne, hl⟩
  · simp [Act.put, h.size, hd]
  · have := h.get i u hl
    simp only [Act.put, Array.getD_eq_getD_getElem?] at this ⊢
    rw [Array.getElem?_setIfInBounds_ne hne]; exact this
theorem Rep.put_none {n : Nat} {env : Env} {a : Act} {v : Value} (h : Rep n env a) : Rep n env (a.put none v) := h
theorem Rep.nil {n : Nat} {env : Env} {a : Act} (h : Rep n env a) : Rep n [] a := ⟨h.size, h.nod, fun _ _ h => by simp [look] at h⟩
theorem Rep.cons {n : Nat} {env env' : Env} {a : Act} {d : Nat} {v : Value} (h : Rep n env a) (hl : look env d = some v) (h' : Rep n env' a) : Rep n ((d, v) :: env') a := by
  refine ⟨h.size, h.nod, fun i u hu => ?_⟩
  rcases look_put hu with ⟨rfl, rfl⟩ | ⟨_, hl'⟩
  · exact h.get d v hl
  · exact h'.get i u hl'
/-- every entry of env' is env's -/
def sub (env : Env) : Env → Prop
  | [] => True
  | p :: l => look env p.1 = some p.2 ∧ sub env l
theorem Rep.sub {n : Nat} {env : Env} {a : Act} (h : Rep n env a) : ∀ {env' : Env}, sub env env' → Rep n env' a
  | [], _ => h.nil
  | _ :: _, hs => h.cons hs.1 (h.sub hs.2)

/-- what may have turned: the blocks in S, and what is new -/
structure Fr (S : List Nat) (w w' : World) : Prop where
  os : w'.os = w.os
  tape : w'.tape = w.tape
  output : w'.output = w.output
  size : w.heap.size ≤ w'.heap.size
  block : ∀ k, k < w.heap.size → k ∉ S → w'.heap[k]? = w.heap[k]?
theorem Fr.refl (S : List Nat) (w : World) : Fr S w w := ⟨rfl, rfl, rfl, Nat.le_refl _, fun _ _ _ => rfl⟩
theorem Fr.trans {S : List Nat} {a b c : World} (h : Fr S a b) (k : Fr S b c) : Fr S a c :=
  ⟨k.os.trans h.os, k.tape.trans h.tape, k.output.trans h.output, Nat.le_trans h.size k.size, fun i hi hS => (k.block i (Nat.lt_of_lt_of_le hi h.size) hS).trans (h.block i hi hS)⟩
theorem Fr.trans' {S T : List Nat} {a b c : World} (h : Fr S a b) (k : Fr T b c) (hT : ∀ x ∈ T, x ∈ S ∨ a.heap.size ≤ x) : Fr S a c :=
  ⟨k.os.trans h.os, k.tape.trans h.tape, k.output.trans h.output, Nat.le_trans h.size k.size, fun i hi hS => (k.block i (Nat.lt_of_lt_of_le hi h.size) (fun hm => by
    rcases hT i hm with h1 | h1
    · exact hS h1
    · omega)).trans (h.block i hi hS)⟩
theorem Fr.mono {S T : List Nat} {a b : World} (h : Fr S a b) (hS : ∀ x ∈ S, x ∈ T) : Fr T a b := ⟨h.os, h.tape, h.output, h.size, fun k hk hT => h.block k hk (fun hm => hT (hS k hm))⟩
theorem Fr.drew (S : List Nat) (w : World) : Fr S w { w with drawn := w.drawn + 1 } := ⟨rfl, rfl, rfl, Nat.le_refl _, fun _ _ _ => rfl⟩
theorem Fr.alloc (S : List Nat) (w : World) (o : Obj) : Fr S w (w.alloc o) := ⟨rfl, rfl, rfl, by simp, fun k hk _ => Go.RowKit.Below.heap_alloc w o k hk⟩
theorem Fr.below {w w' : World} (h : Fr [] w w') : Go.RowKit.Below w.heap.size w w' := ⟨h.os, h.tape, h.output, h.size, fun k hk => h.block k hk (by simp)⟩
theorem Fr.of_below {w w' : World} (h : Go.RowKit.Below w.heap.size w w') : Fr [] w w' := ⟨h.os, h.tape, h.output, h.size, fun k hk _ => h.block k hk⟩

structure Item where
  foot : List Nat
  holds : World → Prop
  loc : ∀ w w', (∀ b ∈ foot, w'.heap[b]? = w.heap[b]?) → holds w → holds w'
  here : ∀ w, holds w → ∀ b ∈ foot, b < w.heap.size
  row : Option (Nat × List Value × TypeId) := none
  rowOk : ∀ b cs t, row = some (b, cs, t) → foot = [b] ∧ ∀ w, holds w → w.heap[b]? = some (.cells cs.toArray t (0, 0)) := by intro b cs t h; cases h

def blk (b : Nat) (cs : List Value) (t : TypeId) : Item where
  foot := [b]
  holds w := w.heap[b]? = some (.cells cs.toArray t (0, 0))
  loc w w' h hw := by rw [h b (by simp)]; exact hw
  here w hw c hc := by
    simp at hc; subst hc
    exact (Array.getElem?_eq_some_iff.1 hw).1
  row := some (b, cs, t)
  rowOk _ _ _ h := by cases h; exact ⟨rfl, fun _ h => h⟩
/-- a map's block -/
def mblk (b : Nat) (es : Array MapEntry) (clock : Nat) : Item where
  foot := [b]
  holds w := w.heap[b]? = some (.map es clock)
  loc w w' h hw := by rw [h b (by simp)]; exact hw
  here w hw c hc := by
    simp at hc; subst hc
    exact (Array.getElem?_eq_some_iff.1 hw).1

def feet (H : List Item) : List Nat := H.flatMap (·.foot)

structure HS (w0 : World) (S : List Nat) (H : List Item) (w : World) : Prop where
  fr : Fr S w0 w
  all : ∀ it ∈ H, it.holds w
  nodup : (feet H).Nodup
  own : ∀ b ∈ feet H, b ∈ S ∨ w0.heap.size ≤ b

theorem HS.kept {w0 : World} {S : List Nat} {H : List Item} {w w' : World} (h : HS w0 S H w) (f : Fr [] w w') : HS w0 S H w' := by
  refine ⟨h.fr.trans' f (by simp), fun it hi => ?_, h.nodup, h.own⟩
  refine it.loc w w' (fun b hb => f.block b (it.here w (h.all it hi) b hb) (by simp)) (h.all it hi)
theorem HS.mem {w0 : World} {S : List Nat} {H : List Item} {w : World} (h : HS w0 S H w) {i : Nat} {it : Item} (hi : H[i]? = some it) : it.holds w := h.all it (List.mem_of_getElem? hi)
theorem HS.nil (w : World) : HS w [] [] w := ⟨Fr.refl _ _, by simp, by simp [feet], by simp [feet]⟩
theorem HS.start (w : World) (H : List Item) (h : ∀ it ∈ H, it.holds w) (hn : (feet H).Nodup) : HS w (feet H) H w := ⟨Fr.refl _ _, h, hn, fun _ hb => .inl hb⟩

theorem feet_append (H K : List Item) : feet (H ++ K) = feet H ++ feet K := by simp [feet]
/-- a new item whose feet are all new -/
theorem HS.add {w0 : World} {S : List Nat} {H : List Item} {w w' : World} {it : Item} (h : HS w0 S H w) (f : Fr [] w w') (hi : it.holds w') (hn : it.foot.Nodup) (hnew : ∀ b ∈ it.foot, w.heap.size ≤ b) : HS w0 S (H ++ [it]) w' := by
  have hk := h.kept f
  have hlt : ∀ b ∈ feet H, b < w.heap.size := fun b hb => by
    obtain ⟨jt, hj, hb'⟩ := List.mem_flatMap.1 hb
    exact jt.here w (h.all jt hj) b hb'
  refine ⟨hk.fr, fun jt hj => ?_, ?_, fun b hb => ?_⟩
  · rcases List.mem_append.1 hj with hj | hj
    · exact hk.all jt hj
    · simp at hj; subst hj; exact hi
  · rw [feet_append]
    refine List.nodup_append.2 ⟨h.nodup, by simpa [feet] using hn, fun x hx y hy => ?_⟩
    have h1 := hlt x hx
    have h2 := hnew y (by simpa [feet] using hy)
    omega
  · rw [feet_append] at hb
    rcases List.mem_append.1 hb with hb | hb
    · exact h.own b hb
    · right
      have h2 := hnew b (by simpa [feet] using hb)
      have := h.fr.size
      omega
/-- the item at place i is turned into another; its feet are the old ones or new ones -/
theorem HS.turn {w0 : World} {S : List Nat} {H : List Item} {w w' : World} {i : Nat} {it jt : Item} (h : HS w0 S H w) (hi : H[i]? = some it) (f : Fr it.foot w w') (hj : jt.holds w') (hn : jt.foot.Nodup)
    (hsub : ∀ b ∈ jt.foot, b ∈ it.foot ∨ w.heap.size ≤ b) : HS w0 S (H.set i jt) w' := by
  obtain ⟨hlt, hget⟩ := List.getElem?_eq_some_iff.1 hi
  have hsplit : H = H.take i ++ it :: H.drop (i + 1) := by
    rw [← hget, List.getElem_cons_drop, List.take_append_drop]
  have hset : H.set i jt = H.take i ++ jt :: H.drop (i + 1) := by
    rw [List.set_eq_take_append_cons_drop, if_pos hlt]
  have hfoot : feet H = feet (H.take i) ++ (it.foot ++ feet (H.drop (i + 1))) := by
    conv => lhs; rw [hsplit]
    simp [feet]
  have hfoot' : feet (H.set i jt) = feet (H.take i) ++ (jt.foot ++ feet (H.drop (i + 1))) := by
    rw [hset]; simp [feet]
  have hltb : ∀ b ∈ feet H, b < w.heap.size := fun b hb => by
    obtain ⟨kt, hk, hb'⟩ := List.mem_flatMap.1 hb
    exact kt.here w (h.all kt hk) b hb'
  have hnd := h.nodup
  rw [hfoot] at hnd
  obtain ⟨n1, n2, n3⟩ := List.nodup_append.1 hnd
  obtain ⟨n4, n5, n6⟩ := List.nodup_append.1 n2
  have hitm : it ∈ H := List.mem_of_getElem? hi
  have hmem1 : ∀ kt ∈ H.take i, kt ∈ H := fun kt hk => List.mem_of_mem_take hk
  have hmem2 : ∀ kt ∈ H.drop (i + 1), kt ∈ H := fun kt hk => List.mem_of_mem_drop hk
  have hfree1 : ∀ kt ∈ H.take i, ∀ b ∈ kt.foot, b ∉ it.foot := fun kt hk b hb hb' =>
    n3 b (List.mem_flatMap.2 ⟨kt, hk, hb⟩) b (List.mem_append.2 (.inl hb')) rfl
  have hfree2 : ∀ kt ∈ H.drop (i + 1), ∀ b ∈ kt.foot, b ∉ it.foot := fun kt hk b hb hb' =>
    n6 b hb' b (List.mem_flatMap.2 ⟨kt, hk, hb⟩) rfl
  have hkeep : ∀ kt ∈ H, (∀ b ∈ kt.foot, b ∉ it.foot) → kt.holds w' := fun kt hk hfr =>
    kt.loc w w' (fun b hb => f.block b (kt.here w (h.all kt hk) b hb) (hfr b hb)) (h.all kt hk)
  have hitown : ∀ x ∈ it.foot, x ∈ S ∨ w0.heap.size ≤ x := fun x hx => h.own x (by rw [hfoot]; simp [hx])
  refine ⟨h.fr.trans' f hitown, fun kt hk => ?_, ?_, fun b hb => ?_⟩
  · rw [hset] at hk
    rcases List.mem_append.1 hk with hk | hk
    · exact hkeep kt (hmem1 kt hk) (hfree1 kt hk)
    · rcases List.mem_cons.1 hk with rfl | hk
      · exact hj
      · exact hkeep kt (hmem2 kt hk) (hfree2 kt hk)
  · rw [hfoot']
    refine List.nodup_append.2 ⟨n1, List.nodup_append.2 ⟨hn, n5, fun x hx y hy => ?_⟩, fun x hx y hy => ?_⟩
    · rcases hsub x hx with h1 | h1
      · exact n6 x h1 y hy
      · have := hltb y (by rw [hfoot]; simp [hy]); omega
    · have hxl := hltb x (by rw [hfoot]; simp [hx])
      rcases List.mem_append.1 hy with hy | hy
      · rcases hsub y hy with h1 | h1
        · exact n3 x hx y (List.mem_append.2 (.inl h1))
        · omega
      · exact n3 x hx y (List.mem_append.2 (.inr hy))
  · rw [hfoot'] at hb
    rcases List.mem_append.1 hb with hb | hb
    · exact h.own b (by rw [hfoot]; simp [hb])
    · rcases List.mem_append.1 hb with hb | hb
      · rcases hsub b hb with h1 | h1
        · exact hitown b h1
        · right; have := h.fr.size; omega
      · exact h.own b (by rw [hfoot]; simp [hb])
theorem feet_sublist {K H : List Item} (hs : List.Sublist K H) : List.Sublist (feet K) (feet H) := by
  induction hs with
  | slnil => exact List.Sublist.refl _
  | cons a _ ih => exact ih.trans (List.sublist_append_right _ _)
  | cons_cons a _ ih => exact List.Sublist.append (List.Sublist.refl _) ih
theorem HS.sub {w0 : World} {S : List Nat} {H K : List Item} {w : World} (h : HS w0 S H w) (hs : List.Sublist K H) : HS w0 S K w :=
  ⟨h.fr, fun it hi => h.all it (hs.subset hi), h.nodup.sublist (feet_sublist hs), fun b hb => h.own b ((feet_sublist hs).subset hb)⟩
theorem HS.perm {w0 : World} {S : List Nat} {H K : List Item} {w : World} (h : HS w0 S H w) (hp : List.Perm H K) : HS w0 S K w :=
  ⟨h.fr, fun it hi => h.all it (hp.mem_iff.2 hi), (hp.flatMap_right _).nodup_iff.1 h.nodup, fun b hb => h.own b ((hp.flatMap_right _).mem_iff.2 hb)⟩

/-- from every frame that reads as env, in every world that has the items H -/
def A (n : Nat) (env : Env) (w0 : World) (S : List Nat) (H : List Item) (G : Act → World → Prop) : Prop := ∀ a w, Rep n env a → HS w0 S H w → G a w

end Go.Proofs.Ytinnnoimmioaiaa.V
namespace Go.Proofs.Ytinnnoimmioaiaa.V
open Go

section control
variable {P : Program} {Q : Exit → Act → World → Prop} {n : Nat} {env : Env} {w0 : World} {S : List Nat} {H : List Item}

theorem A.mono {G G' : Act → World → Prop} (h : A n env w0 S H G) (hg : ∀ a w, G a w → G' a w) : A n env w0 S H G' := fun a w r s => hg a w (h a w r s)
theorem A.sub {G : Act → World → Prop} (env' : Env) (hs : V.sub env env') (h : A n env' w0 S H G) : A n env w0 S H G := fun a w r s => h a w (r.sub hs) s
theorem A.items {G : Act → World → Prop} (K : List Item) (hp : List.Sublist K H) (h : A n env w0 S K G) : A n env w0 S H G := fun a w r s => h a w r (s.sub hp)
theorem A.permute {G : Act → World → Prop} (K : List Item) (hp : List.Perm H K) (h : A n env w0 S K G) : A n env w0 S H G := fun a w r s => h a w r (s.perm hp)
theorem A.norm {G : Act → World → Prop} (env' : Env) (K : List Item) (hs : V.sub env env') (hk : H = K) (h : A n env' w0 S K G) : A n env w0 S H G := by subst hk; exact fun a w r s => h a w (r.sub hs) s
theorem A.bool {G : Act → World → Prop} (E : Bool) (ht : E = true → A n env w0 S H G) (hf : E = false → A n env w0 S H G) : A n env w0 S H G := by
  cases E
  · exact hf rfl
  · exact ht rfl
theorem A.have_ {G : Act → World → Prop} {p : Prop} (hp : ∀ w, HS w0 S H w → p) (h : p → A n env w0 S H G) : A n env w0 S H G := fun a w r s => h (hp w s) a w r s
theorem A.seq {x y : Code} (h : A n env w0 S H (x.wp P (Exit.then (y.wp P Q) Q))) : A n env w0 S H ((Code.seq x y).wp P Q) := fun a w r s => wp_seq (h a w r s)
theorem A.seq_cut {x y : Code} (M : Act → World → Prop) (h : A n env w0 S H (x.wp P (Exit.then M Q))) (h' : ∀ a w, M a w → y.wp P Q a w) : A n env w0 S H ((Code.seq x y).wp P Q) :=
  fun a w r s => wp_seq (wp_mono (h a w r s) fun e a w hq => by cases e <;> first | exact h' a w hq | exact hq)
theorem A.tn {K : Act → World → Prop} (h : A n env w0 S H K) : A n env w0 S H (Exit.then K Q .normal) := h
theorem A.te {K : Act → World → Prop} {i : Nat} (h : A n env w0 S H (Q (.exit i))) : A n env w0 S H (Exit.then K Q (.exit i)) := h
theorem A.tr {K : Act → World → Prop} (h : A n env w0 S H (Q .ret)) : A n env w0 S H (Exit.then K Q .ret) := h
theorem A.tg {K : Act → World → Prop} {i : Nat} (h : A n env w0 S H (Q (.goto i))) : A n env w0 S H (Exit.then K Q (.goto i)) := h
theorem A.bn {id : Nat} (h : A n env w0 S H (Q .normal)) : A n env w0 S H (Exit.inBlock id Q .normal) := h
theorem A.br {id : Nat} (h : A n env w0 S H (Q .ret)) : A n env w0 S H (Exit.inBlock id Q .ret) := h
theorem A.bh {id : Nat} (h : A n env w0 S H (Q .normal)) : A n env w0 S H (Exit.inBlock id Q (.exit id)) := fun a w r s => by simp only [Exit.inBlock, if_true]; exact h a w r s
theorem A.bm {id i : Nat} (hne : Nat.beq i id = false) (h : A n env w0 S H (Q (.exit i))) : A n env w0 S H (Exit.inBlock id Q (.exit i)) := fun a w r s => by
  simp only [Exit.inBlock, if_neg (Nat.ne_of_beq_eq_false hne)]; exact h a w r s
theorem A.gn (h : A n env w0 S H (Q .normal)) : A n env w0 S H (Exit.noGoto Q .normal) := h
theorem A.gr (h : A n env w0 S H (Q .ret)) : A n env w0 S H (Exit.noGoto Q .ret) := h
theorem A.ge {i : Nat} (h : A n env w0 S H (Q (.exit i))) : A n env w0 S H (Exit.noGoto Q (.exit i)) := h
theorem A.skip (h : A n env w0 S H (Q .normal)) : A n env w0 S H (Code.skip.wp P Q) := fun a w r s => wp_skip (h a w r s)
theorem A.label {l : Nat} (h : A n env w0 S H (Q .normal)) : A n env w0 S H ((Code.label l).wp P Q) := fun a w r s => wp_label (h a w r s)
theorem A.exit {i : Nat} (h : A n env w0 S H (Q (.exit i))) : A n env w0 S H ((Code.exit i).wp P Q) := fun a w r s => wp_exit (h a w r s)
theorem A.ret (h : A n env w0 S H (Q .ret)) : A n env w0 S H (Code.ret.wp P Q) := fun a w r s => wp_ret (h a w r s)
theorem A.block {id : Nat} {c : Code} (h : A n env w0 S H (c.wp P (Exit.inBlock id Q))) : A n env w0 S H ((Code.block id c).wp P Q) := fun a w r s => wp_block (h a w r s)
theorem A.scope {c : Code} (h : A n env w0 S H (c.wp P (Exit.noGoto Q))) : A n env w0 S H ((Code.scope c).wp P Q) := fun a w r s => wp_scope_straight (h a w r s)
theorem A.cond {c : Operand} {x y : Code} {E : Bool} (hc : ev env c = some (.bool E)) (ht : E = true → A n env w0 S H (x.wp P Q)) (hf : E = false → A n env w0 S H (y.wp P Q)) : A n env w0 S H ((Code.cond c x y).wp P Q) :=
  fun a w r s => wp_cond_split (t := E) (r.ev hc) (fun e => ht e a w r s) (fun e => hf e a w r s)
theorem A.cond_t {c : Operand} {x y : Code} (hc : ev env c = some (.bool true)) (ht : A n env w0 S H (x.wp P Q)) : A n env w0 S H ((Code.cond c x y).wp P Q) :=
  fun a w r s => wp_cond_true (r.ev hc) (ht a w r s)
theorem A.cond_f {c : Operand} {x y : Code} (hc : ev env c = some (.bool false)) (hf : A n env w0 S H (y.wp P Q)) : A n env w0 S H ((Code.cond c x y).wp P Q) :=
  fun a w r s => wp_cond_false (r.ev hc) (hf a w r s)
theorem A.region {id : Nat} {l : List Oper} (h : A n env w0 S H (wpList P l.toArray Q l)) : A n env w0 S H ((Code.region id l.toArray false).wp P Q) := fun a w r s => wp_region_lit (h a w r s)
theorem A.done {ops : Array Oper} (h : A n env w0 S H (Q .normal)) : A n env w0 S H (wpList P ops Q []) := h

/-- a loop: the state is told by x; a round lowers the measure -/
theorem A.loop {σ : Type} {c : Code} (envf : σ → Env) (Hf : σ → List Item) (φ : σ → Prop) (μ : σ → Nat) (x0 : σ) (h0 : φ x0)
    (hstart : A n env w0 S H (fun a w => Rep n (envf x0) a ∧ HS w0 S (Hf x0) w))
    (round : ∀ x, φ x → A n (envf x) w0 S (Hf x) (c.wp P (Exit.then (fun a w => ∃ y, φ y ∧ μ y < μ x ∧ Rep n (envf y) a ∧ HS w0 S (Hf y) w) Q))) :
    A n env w0 S H ((Code.loop c).wp P Q) := by
  intro a0 w00 r0 s0
  intro b k cs
  have key : ∀ m x a w, μ x = m → φ x → Rep n (envf x) a → HS w0 S (Hf x) w →
      ∃ e a' w', Q e a' w' ∧ Arrives P (lone (b.at a (.code c :: .inLoop c :: k)) cs w) b k cs e a' w' := by
    intro m
    induction m using Nat.strongRecOn with
    | _ m ih =>
      intro x a w hm hx hr hs
      obtain ⟨e, a₁, w₁, hq, harr⟩ := round x hx a w hr hs b (.inLoop c :: k) cs
      cases e with
      | normal =>
        obtain ⟨y, hy, hlt, hr1, hs1⟩ := hq
        obtain ⟨e₂, a₂, w₂, hq₂, harr₂⟩ := ih (μ y) (hm ▸ hlt) y a₁ w₁ rfl hy hr1 hs1
        exact ⟨e₂, a₂, w₂, hq₂, .of_steps (Steps.trans harr (.one step_inLoop)) harr₂⟩
      | exit id => exact ⟨_, a₁, w₁, hq, .pass (x := .inLoop c) rfl (fun _ _ => .inl (by simp)) harr⟩
      | goto l => exact ⟨_, a₁, w₁, hq, .pass (x := .inLoop c) rfl (fun _ _ => .inl (by simp)) harr⟩
      | ret => exact ⟨_, a₁, w₁, hq, .pass (x := .inLoop c) rfl (fun _ _ => .inl (by simp)) harr⟩
      | panic ch => exact ⟨_, a₁, w₁, hq, .pass (x := .inLoop c) rfl (fun _ _ => .inl (by simp)) harr⟩
      | outgrown => exact ⟨_, a₁, w₁, hq, .pass (x := .inLoop c) rfl (fun _ _ => .inl (by simp)) harr⟩
  obtain ⟨hr, hs⟩ := hstart a0 w00 r0 s0
  obtain ⟨e, a', w', hq, harr⟩ := key _ x0 a0 w00 rfl h0 hr hs
  exact ⟨e, a', w', hq, .of_steps (.one step_loop) harr⟩
/-- the end of a round, the start of a loop, a cut: the state named -/
theorem A.here {env' : Env} (hs : V.sub env env') {K : List Item} (hk : List.Sublist K H) : A n env w0 S H (fun a w => Rep n env' a ∧ HS w0 S K w) := fun _ _ r s => ⟨r.sub hs, s.sub hk⟩
theorem A.hereP {env' : Env} (hs : V.sub env env') {K : List Item} (hk : List.Perm H K) : A n env w0 S H (fun a w => Rep n env' a ∧ HS w0 S K w) := fun _ _ r s => ⟨r.sub hs, s.perm hk⟩
theorem A.next {σ : Type} {envf : σ → Env} {Hf : σ → List Item} {φ : σ → Prop} {μ : σ → Nat} {m : Nat} (y : σ) (hy : φ y) (hlt : μ y < m) (h : A n env w0 S H (fun a w => Rep n (envf y) a ∧ HS w0 S (Hf y) w)) :
    A n env w0 S H (fun a w => ∃ y, φ y ∧ μ y < m ∧ Rep n (envf y) a ∧ HS w0 S (Hf y) w) := fun a w r s => ⟨y, hy, hlt, h a w r s⟩
/-- a cut with a state told by x -/
theorem A.cutx {σ : Type} {x y : Code} (envf : σ → Env) (Hf : σ → List Item) (φ : σ → Prop)
    (h : A n env w0 S H (x.wp P (Exit.then (fun a w => ∃ z, φ z ∧ Rep n (envf z) a ∧ HS w0 S (Hf z) w) Q)))
    (h' : ∀ z, φ z → A n (envf z) w0 S (Hf z) (y.wp P Q)) : A n env w0 S H ((Code.seq x y).wp P Q) :=
  A.seq_cut (fun a w => ∃ z, φ z ∧ Rep n (envf z) a ∧ HS w0 S (Hf z) w) h fun a w ⟨z, hz, r, s⟩ => h' z hz a w r s
theorem A.meet {σ : Type} {envf : σ → Env} {Hf : σ → List Item} {φ : σ → Prop} (z : σ) (hz : φ z) (h : A n env w0 S H (fun a w => Rep n (envf z) a ∧ HS w0 S (Hf z) w)) :
    A n env w0 S H (fun a w => ∃ z, φ z ∧ Rep n (envf z) a ∧ HS w0 S (Hf z) w) := fun a w r s => ⟨z, hz, h a w r s⟩
end control

/-! ### single operations -/
def wantedE (ops : Array Oper) (env : Env) (o : Oper) : Option Bool :=
  match o.guard with
  | none => some true
  | some (j, b) => match ((ops[j]?).bind (·.dst)).bind (look env) with
    | some (.bool c) => some (c == b)
    | some (.tuple _) => some false
    | _ => none
theorem wanted_of {n : Nat} {env : Env} {ops : Array Oper} {o : Oper} {b : Bool} {a : Act} (r : Rep n env a) (h : wantedE ops env o = some b) : Region.wanted o (yielded ops a.tmps) = b := by
  unfold wantedE at h
  unfold Region.wanted
  cases hg : o.guard with
  | none => rw [hg] at h; simpa using h
  | some p =>
    obtain ⟨j, c⟩ := p
    rw [hg] at h
    simp only at h ⊢
    cases hd : (ops[j]?).bind (·.dst) with
    | none => rw [hd] at h; simp at h
    | some d =>
      rw [hd] at h
      simp only [Option.bind_some] at h
      cases hl : look env d with
      | none => rw [hl] at h; simp at h
      | some v =>
        rw [hl] at h
        have hget := r.get d _ hl
        cases v <;> simp at h
        case bool e =>
          have : a.tmps[d]? = some (.bool e) := by
            rw [Array.getD_eq_getD_getElem?] at hget
            cases hx : a.tmps[d]? with
            | none => rw [hx] at hget; simp [undef] at hget
            | some u => rw [hx] at hget; simp at hget; rw [hget]
          simp only [yielded, hd, Option.bind_some, this]
          subst h
          cases e <;> cases c <;> rfl
        case tuple vs =>
          have : yielded ops a.tmps j = none := by
            rw [Array.getD_eq_getD_getElem?] at hget
            simp only [yielded, hd, Option.bind_some]
            cases hx : a.tmps[d]? with
            | none => rfl
            | some u => rw [hx] at hget; simp at hget; rw [hget]
          rw [this]; simp [h]

def okOps (env : Env) (o : Oper) : Bool := o.op.operands.toList.all (fun x => (ev env x).isSome) && (match o.op with | .select .. => false | _ => true)
theorem execOp_env {n : Nat} {env : Env} {o : Oper} {a : Act} (r : Rep n env a) (h : okOps env o = true) : execOp a.eval o = execOp (evD env) o := by
  simp only [okOps, Bool.and_eq_true] at h
  refine execOp_congr o (fun cs b hs => by rw [hs] at h; simp at h) fun x hx => ?_
  have := List.all_eq_true.1 h.1 x (by simpa using hx)
  obtain ⟨v, hv⟩ := Option.isSome_iff_exists.1 this
  rw [r.ev hv]; simp [evD, hv]
def headOk (ops : Array Oper) (n : Nat) (env : Env) (o : Oper) (d : Option Nat) : Bool :=
  (match wantedE ops env o with | some b => b | none => false) && (match o.dst, d with | some x, some y => Nat.beq x y && Nat.blt y n | none, none => true | _, _ => false) && okOps env o
theorem headOk_spec {ops : Array Oper} {n : Nat} {env : Env} {o : Oper} {d : Option Nat} (h : headOk ops n env o d = true) : wantedE ops env o = some true ∧ o.dst = d ∧ (∀ x, d = some x → x < n) ∧ okOps env o = true := by
  simp only [headOk, Bool.and_eq_true] at h
  obtain ⟨⟨h1, h2⟩, h3⟩ := h
  refine ⟨?_, ?_, ?_, h3⟩
  · cases hw : wantedE ops env o with
    | none => rw [hw] at h1; simp at h1
    | some b => rw [hw] at h1; simp only at h1; rw [h1]
  · cases ho : o.dst <;> cases d <;> rw [ho] at h2 <;> simp only [Bool.and_eq_true] at h2 <;> first | rfl | (cases h2; done) | skip
    exact congrArg some (Nat.eq_of_beq_eq_true h2.1)
  · intro x hx
    subst hx
    cases ho : o.dst <;> rw [ho] at h2 <;> simp only [Bool.and_eq_true] at h2
    · cases h2
    · exact Nat.le_of_ble_eq_true h2.2

def putE (env : Env) : Option Nat → Value → Env
  | some d, v => (d, v) :: env
  | none, _ => env
theorem Rep.putE {n : Nat} {env : Env} {a : Act} {d : Option Nat} {v : Value} (h : Rep n env a) (hd : ∀ x, d = some x → x < n) : Rep n (putE env d v) (a.put d v) := by
  cases d with
  | none => exact h
  | some d => exact h.put (hd d rfl)

def Qf : Exit → Act → World → Prop := fun _ _ _ => False
/-- an operation, and then K; it does not panic -/
def Step (P : Program) (ops : Array Oper) (o : Oper) (K : Act → World → Prop) (a : Act) (w : World) : Prop :=
  if Region.wanted o (yielded ops a.tmps) then o.wp P a w K Qf else K (a.put o.dst undef) w
theorem Oper.wp_imp {P : Program} {Q : Exit → Act → World → Prop} {o : Oper} {a : Act} {w : World} {K K' : Act → World → Prop} (h : o.wp P a w K Qf) (hk : ∀ a' w', K a' w' → K' a' w') : o.wp P a w K' Q := by
  unfold Oper.wp at *
  generalize (execOp a.eval o).run P w = r at *
  cases r with
  | ok nx w' =>
    cases nx <;> simp only [Oper.upon] at h ⊢ <;> first | exact hk _ _ h | skip
    · exact h.mono fun e w'' he => by
        cases e with
        | returned u => exact hk _ _ he
        | panicked c => exact he.elim
        | outgrown => obtain ⟨_, _, hf⟩ := he; exact hf.elim
    · exact h.mono fun v w'' he => hk _ _ he
  | halt x w' => cases x <;> simp only [Oper.upon] at h ⊢ <;> exact h.elim

/-- ONE VALUE, and no old block turned -/
def quietUpon (P : Program) (w : World) (v : Value) : Result Next → Prop
  | .ok (.value u) w' => u = v ∧ Fr [] w w'
  | .ok .skip w' => v = undef ∧ Fr [] w w'
  | .ok (.enter f args) w' => Calls P f args w' fun e w'' => e = .returned v ∧ Fr [] w w''
  | _ => False
/-- the operation yields v, from env and H -/
def Qt (P : Program) (n : Nat) (env : Env) (w0 : World) (S : List Nat) (H : List Item) (o : Oper) (v : Value) : Prop :=
  ∀ a w, Rep n env a → HS w0 S H w → quietUpon P w v ((execOp a.eval o).run P w)
theorem wp_of_quiet {P : Program} {o : Oper} {a : Act} {w : World} {v : Value} {K : Act → World → Prop} (h : quietUpon P w v ((execOp a.eval o).run P w)) (hk : ∀ w', Fr [] w w' → K (a.put o.dst v) w') : o.wp P a w K Qf := by
  unfold Oper.wp
  generalize (execOp a.eval o).run P w = r at *
  cases r with
  | ok nx w' =>
    cases nx <;> simp only [quietUpon] at h <;> simp only [Oper.upon]
    case value u => obtain ⟨rfl, hf⟩ := h; exact hk _ hf
    case skip => obtain ⟨rfl, hf⟩ := h; exact hk _ hf
    case enter f args => exact h.mono fun e w'' ⟨he, hf⟩ => by subst he; exact hk _ hf
  | halt x w' => exact h.elim

section single
variable {P : Program} {Q : Exit → Act → World → Prop} {n : Nat} {env : Env} {w0 : World} {S : List Nat} {H : List Item} {ops : Array Oper} {rest : List Oper} {o : Oper} {K : Act → World → Prop}

theorem A.cons (h : A n env w0 S H (Step P ops o (wpList P ops Q rest))) : A n env w0 S H (wpList P ops Q (o :: rest)) := by
  intro a w r s
  have h1 := h a w r s
  unfold Step at h1
  show if Region.wanted o (yielded ops a.tmps) then _ else _
  split
  · rename_i hw
    rw [if_pos hw] at h1
    exact .inl (Oper.wp_imp h1 fun _ _ h => h)
  · rename_i hw
    rw [if_neg hw] at h1
    exact h1
theorem A.jump (d : Option Nat) (hw : wantedE ops env o = some false) (hd : o.dst = d) (hn : ∀ x, d = some x → Nat.blt x n = true) (h : A n (putE env d undef) w0 S H K) : A n env w0 S H (Step P ops o K) := by
  intro a w r s
  have hw := wanted_of r hw
  unfold Step
  rw [hw, hd]
  exact h _ w (r.putE fun x hx => Nat.le_of_ble_eq_true (hn x hx)) s
/-- it yields v -/
theorem A.q (d : Option Nat) (v : Value) (hok : headOk ops n env o d = true) (hq : Qt P n env w0 S H o v) (h : A n (putE env d v) w0 S H K) : A n env w0 S H (Step P ops o K) := by
  intro a w r s
  obtain ⟨h1, h2, h3, _⟩ := headOk_spec hok
  unfold Step
  rw [if_pos (wanted_of r h1)]
  refine wp_of_quiet (hq a w r s) fun w' hf => ?_
  rw [h2]
  exact h _ w' (r.putE h3) (s.kept hf)
theorem qt_same {v : Value} (h : ∀ a w, Rep n env a → HS w0 S H w → (execOp a.eval o).run P w = .ok (.value v) w) : Qt P n env w0 S H o v := by
  intro a w r s
  rw [h a w r s]
  exact ⟨rfl, Fr.refl _ _⟩
/-- world-less: the kernel reckons it -/
theorem qt_pure {v : Value} (hok : okOps env o = true) (hv : ∀ w, (execOp (evD env) o).run P w = .ok (.value v) w) : Qt P n env w0 S H o v :=
  qt_same fun a w r _ => by rw [execOp_env r hok]; exact hv w
theorem qt_as {v v' : Value} (e : v = v') (h : Qt P n env w0 S H o v) : Qt P n env w0 S H o v' := e ▸ h
theorem qt_move {x : Operand} {v : Value} (ho : o.op = .move x) (hx : ev env x = some v) : Qt P n env w0 S H o v := qt_same fun a w r _ => by simp [execOp, ho, r.ev hx]
theorem qt_assign {x : Operand} {v : Value} (ho : o.op = .assign x) (hx : ev env x = some v) : Qt P n env w0 S H o v := qt_same fun a w r _ => by simp [execOp, ho, r.ev hx]

/-! reads -/
def isScalar (P : Program) (t : TypeId) : Bool := match P.underlying t with | some (.struct _) | some (.array _ _) => false | some _ => true | none => false
def aggOf (P : Program) (t : TypeId) : Option Nat := match P.underlying t with | some (.struct _) | some (.array _ _) => (P.info? t).map (·.size) | _ => none
theorem run_isAgg_scalar {t : TypeId} (h : isScalar P t = true) (w : World) : (isAgg t).run P w = .ok false w := by
  unfold isScalar at h
  cases hu : P.underlying t with
  | none => rw [hu] at h; simp at h
  | some d =>
    rw [hu] at h
    cases d <;> simp at h <;> simp [isAgg, run_underlying hu]
theorem run_isAgg_agg {t : TypeId} {k : Nat} (h : aggOf P t = some k) (w : World) : (isAgg t).run P w = .ok true w ∧ (sizeOf t).run P w = .ok k w := by
  unfold aggOf at h
  cases hu : P.underlying t with
  | none => rw [hu] at h; simp at h
  | some d =>
    rw [hu] at h
    cases d <;> simp at h <;> (obtain ⟨i, hi, rfl⟩ := h; exact ⟨by simp [isAgg, run_underlying hu], by simp [sizeOf, typeInfo, hi]⟩)
theorem run_load_scalar {t : TypeId} {p : Addr} {v : Value} {w : World} (h : isScalar P t = true) (hc : w.cell? p = some v) : (loadVar t p).run P w = .ok v w := by
  simp [loadVar, run_isAgg_scalar h, hc]
theorem run_load_agg {t : TypeId} {p : Addr} {vs : List Value} {w : World} (h : aggOf P t = some vs.length) (hc : ∀ j u, vs[j]? = some u → w.cell? (p.add j) = some u) : (loadVar t p).run P w = .ok (.agg vs.toArray) w := by
  obtain ⟨h1, h2⟩ := run_isAgg_agg h w
  simp [loadVar, h1, h2, run_loadCells_list (P := P) w p vs hc]
/-- the cells from p on are vs, in every world at hand -/
def Reads (w0 : World) (S : List Nat) (H : List Item) (p : Addr) (vs : List Value) : Prop := ∀ w, HS w0 S H w → ∀ j u, vs[j]? = some u → w.cell? (p.add j) = some u
theorem reads_blk {i b off : Nat} {cs vs : List Value} {t : TypeId} (hi : H[i]? = some (blk b cs t)) (hv : (cs.drop off).take vs.length = vs) : Reads w0 S H ⟨b, off, none⟩ vs := by
  intro w s j u hu
  have hh : w.heap[b]? = some (.cells cs.toArray t (0, 0)) := s.mem hi
  have hadd : (⟨b, off, none⟩ : Addr).add j = ⟨b, off + j, none⟩ := by unfold Addr.add; split <;> simp_all
  rw [hadd, cell_of_row w b (off + j) cs.toArray t (0, 0) hh]
  rw [← hv, List.getElem?_take] at hu
  split at hu
  · rw [List.getElem?_drop] at hu; simpa using hu
  · cases hu
theorem reads_old {p : Addr} {vs : List Value} (h : ∀ j u, vs[j]? = some u → w0.cell? (p.add j) = some u) (hS : p.block ∉ S) : Reads w0 S H p vs := by
  intro w s j u hu
  have hc := h j u hu
  have hb : (p.add j).block = p.block := by unfold Addr.add; split <;> rfl
  have hlt := World.block_lt_of_cell? w0 (p.add j) hc
  rw [← hc]
  exact World.cell?_of_block (s.fr.block _ hlt (by rw [hb]; exact hS))
theorem qt_load1 {x : Operand} {t : TypeId} {p : Addr} {v : Value} (ho : o.op = .load t x) (hx : ev env x = some (.pointer (some p))) (ht : isScalar P t = true) (hr : Reads w0 S H p [v]) : Qt P n env w0 S H o v :=
  qt_same fun a w r s => by
    have hc : w.cell? p = some v := by have := hr w s 0 v rfl; simpa [Addr.add] using this
    simp [execOp, ho, Instr.loadAt, r.ev hx, Instr.sureAddr, run_load_scalar ht hc]
theorem qt_loadN {x : Operand} {t : TypeId} {p : Addr} {vs : List Value} (ho : o.op = .load t x) (hx : ev env x = some (.pointer (some p))) (ht : aggOf P t = some vs.length) (hr : Reads w0 S H p vs) : Qt P n env w0 S H o (.agg vs.toArray) :=
  qt_same fun a w r s => by
    simp [execOp, ho, Instr.loadAt, r.ev hx, Instr.sureAddr, run_load_agg ht (hr w s)]

/-! addresses, division, bits -/
theorem add_lit' (b o k : Nat) : (⟨b, o, none⟩ : Addr).add k = ⟨b, o + k, none⟩ := by unfold Addr.add; split <;> simp_all
theorem qt_indexAddr {x y : Operand} {t el : TypeId} {b off len cap sz : Nat} {k : IntKind} {e : Int} (ho : o.op = .indexAddr t x y) (hx : ev env x = some (.slice (some ⟨b, off, none⟩) len cap)) (hy : ev env y = some (.int k e))
    (ht : P.underlying t = some (.slice el)) (hs : (P.info? el).map (·.size) = some sz) (hi : 0 ≤ e ∧ e < (len : Int)) : Qt P n env w0 S H o (.pointer (some ⟨b, off + e.toNat * sz, none⟩)) :=
  qt_same fun a w r _ => by
    simp only [Option.map_eq_some_iff] at hs
    obtain ⟨i, hinf, rfl⟩ := hs
    simp [execOp, ho, r.ev hx, r.ev hy, Instr.indexAt, asIntOf, run_underlying ht, sizeOf, typeInfo, hinf, hi, add_lit']
theorem qt_rem {x y : Operand} {t ty : TypeId} {k : IntKind} {e f : Int} (ho : o.op = .binOp .rem t x y ty) (hx : ev env x = some (.int k e)) (hy : ev env y = some (.int k f)) (hz : f ≠ 0) : Qt P n env w0 S H o (.int k (e.tmod f)) :=
  qt_same fun a w r _ => by simp [execOp, ho, r.ev hx, r.ev hy, eqGuard, binOp, Op.intDiv, hz]
theorem qt_quo {x y : Operand} {t ty : TypeId} {k : IntKind} {e f : Int} (ho : o.op = .binOp .quo t x y ty) (hx : ev env x = some (.int k e)) (hy : ev env y = some (.int k f)) (hz : f ≠ 0) : Qt P n env w0 S H o (.int k (k.wrap (e.tdiv f))) :=
  qt_same fun a w r _ => by simp [execOp, ho, r.ev hx, r.ev hy, eqGuard, binOp, Op.intDiv, hz]

def bitsV (op : BinOp) (k : IntKind) (x y : Int) : Int :=
  match op with
  | .and => k.wrap (BitVec.ofInt k.bits x &&& BitVec.ofInt k.bits y).toNat
  | .or => k.wrap (BitVec.ofInt k.bits x ||| BitVec.ofInt k.bits y).toNat
  | .xor => k.wrap (BitVec.ofInt k.bits x ^^^ BitVec.ofInt k.bits y).toNat
  | .andNot => k.wrap (BitVec.ofInt k.bits x &&& ~~~ (BitVec.ofInt k.bits y)).toNat
  | _ => 0
theorem wrap_i64 {e : Int} (h : -9223372036854775808 ≤ e ∧ e < 9223372036854775808) : IntKind.i64.wrap e = e := by
  simp [IntKind.wrap, IntKind.bits, IntKind.signed]; split <;> omega
theorem wrap_u64 {e : Int} (h : 0 ≤ e ∧ e < 18446744073709551616) : IntKind.u64.wrap e = e := by
  simp [IntKind.wrap, IntKind.bits, IntKind.signed]; omega
theorem wrap_u16 {e : Int} (h : 0 ≤ e ∧ e < 65536) : IntKind.u16.wrap e = e := by
  simp [IntKind.wrap, IntKind.bits, IntKind.signed]; omega
theorem wrap_u8 {e : Int} (h : 0 ≤ e ∧ e < 256) : IntKind.u8.wrap e = e := by
  simp [IntKind.wrap, IntKind.bits, IntKind.signed]; omega
theorem wrap_u32 {e : Int} (h : 0 ≤ e ∧ e < 4294967296) : IntKind.u32.wrap e = e := by
  simp [IntKind.wrap, IntKind.bits, IntKind.signed]; omega
theorem wrap_i32 {e : Int} (h : -2147483648 ≤ e ∧ e < 2147483648) : IntKind.i32.wrap e = e := by
  simp [IntKind.wrap, IntKind.bits, IntKind.signed]; split <;> omega

/-! new blocks -/
theorem A.box (d : Nat) {t : TypeId} {x : Operand} {u : Value} (cs : List Value) (hok : headOk ops n env o (some d) = true) (ho : o.op = .box t x) (hx : ev env x = some u) (hu : u.cells = cs.toArray)
    (H' : Nat → List Item) (hH : ∀ b, H ++ [blk b cs t] = H' b) (h : ∀ b, A n ((d, .pointer (some ⟨b, 0, none⟩)) :: env) w0 S (H' b) K) : A n env w0 S H (Step P ops o K) := by
  intro a w r s
  obtain ⟨h1, h2, h3, h4⟩ := headOk_spec hok
  unfold Step
  rw [if_pos (wanted_of r h1)]
  have hrun : (execOp a.eval o).run P w = .ok (.value (.pointer (some ⟨w.heap.size, 0, none⟩))) (w.alloc (.cells cs.toArray t)) := by
    simp [execOp, ho, r.ev hx, Instr.box, newVar, newRow, newObj, Sem.run, hu, World.alloc_eq]
  unfold Oper.wp
  rw [hrun]
  simp only [Oper.upon, h2]
  refine h w.heap.size _ _ (r.put (h3 d rfl)) ?_
  rw [← hH]
  exact (s.add (Fr.alloc _ _ _) (heap_alloc_new w _) (by simp [blk]) (by simp [blk]))
theorem A.alloc (d : Nat) {t : TypeId} (cs : List Value) (hok : headOk ops n env o (some d) = true) (ho : o.op = .alloc t) (hz : ((P.info? t).bind (·.zero)).map (·.cells) = some cs.toArray)
    (H' : Nat → List Item) (hH : ∀ b, H ++ [blk b cs t] = H' b) (h : ∀ b, A n ((d, .pointer (some ⟨b, 0, none⟩)) :: env) w0 S (H' b) K) : A n env w0 S H (Step P ops o K) := by
  intro a w r s
  obtain ⟨h1, h2, h3, h4⟩ := headOk_spec hok
  unfold Step
  rw [if_pos (wanted_of r h1)]
  have hrun : (execOp a.eval o).run P w = .ok (.value (.pointer (some ⟨w.heap.size, 0, none⟩))) (w.alloc (.cells cs.toArray t)) := by
    simp only [Option.map_eq_some_iff, Option.bind_eq_some_iff] at hz
    obtain ⟨z, ⟨i, hi, hz⟩, hc⟩ := hz
    simp [execOp, ho, Instr.alloc, zeroValue, typeInfo, hi, hz, newVar, newRow, newObj, Sem.run, hc, World.alloc_eq]
  unfold Oper.wp
  rw [hrun]
  simp only [Oper.upon, h2]
  refine h w.heap.size _ _ (r.put (h3 d rfl)) ?_
  rw [← hH]
  exact (s.add (Fr.alloc _ _ _) (heap_alloc_new w _) (by simp [blk]) (by simp [blk]))

/-! stores -/
theorem fr_setRow (w : World) (g : Nat) (cs : Array Value) : Fr [g] w (w.setRow g cs) := by
  refine ⟨rfl, rfl, rfl, by simp [World.setRow], fun k _ hk => ?_⟩
  simp only [List.mem_singleton] at hk
  simp only [World.setRow, Array.getElem?_modify]
  rw [if_neg (fun e => hk e.symm)]
theorem setRow_at (w : World) (g : Nat) (cs cur : Array Value) (t : TypeId) (hg : w.heap[g]? = some (.cells cur t (0, 0))) : (w.setRow g cs).heap[g]? = some (.cells cs t (0, 0)) := by
  simp [World.setRow, Array.getElem?_modify, hg]
theorem A.store (i : Nat) {t ty : TypeId} {x y : Operand} {b off : Nat} {u : Value} {cs vs : List Value} (H' : List Item) (hok : headOk ops n env o none = true) (ho : o.op = .store t x y) (hx : ev env x = some (.pointer (some ⟨b, off, none⟩)))
    (hy : ev env y = some u) (hu : u.cells = vs.toArray) (hsz : (P.info? t).map (·.size) = some vs.length) (h1 : vs.all Value.oneCell' = true) (hi : H[i]? = some (blk b cs ty)) (hin : Nat.ble (off + vs.length) cs.length = true)
    (hH : H.set i (blk b (cs.take off ++ vs ++ cs.drop (off + vs.length)) ty) = H')
    (h : A n env w0 S H' K) : A n env w0 S H (Step P ops o K) := by
  intro a w r s
  obtain ⟨h1', h2, h3, h4⟩ := headOk_spec hok
  unfold Step
  rw [if_pos (wanted_of r h1')]
  have hh : w.heap[b]? = some (.cells cs.toArray ty (0, 0)) := s.mem hi
  have hst := run_storeCells_at P b off ty vs 0 cs.toArray w hh (by simpa using Nat.le_of_ble_eq_true hin) (fun v hv => List.all_eq_true.1 h1 v hv)
  simp only [Nat.add_zero] at hst
  have hlen : u.cells.size = vs.length := by rw [hu]; simp
  simp only [Option.map_eq_some_iff] at hsz
  obtain ⟨inf, hinf, hsz⟩ := hsz
  have hrun : (execOp a.eval o).run P w = .ok .skip (w.setRow b (cs.take off ++ vs ++ cs.drop (off + vs.length)).toArray) := by
    simp only [execOp, ho, Instr.storeAt, r.ev hx, r.ev hy, Instr.sureAddr, storeVar, sizeOf, typeInfo, Sem.run_bind, run_program, Sem.run_pure, Result.andThen_ok, hinf, hsz, hlen]
    simp [hu, hst]
  unfold Oper.wp
  rw [hrun]
  simp only [Oper.upon, h2]
  refine h _ _ r ?_
  rw [← hH]
  exact s.turn hi (fr_setRow _ _ _) (setRow_at w b _ _ ty hh) (by simp [blk]) (by simp [blk])
end single

/-! ### calls -/
def callOk (P : Program) (f : FuncId) : Bool := match P.funcs[f]? with | some fn => fn.name != "runtime.NumGoroutine" && fn.body.isSome | none => false
section calls
variable {P : Program} {Q : Exit → Act → World → Prop} {n : Nat} {env : Env} {w0 : World} {S : List Nat} {H : List Item} {ops : Array Oper} {rest : List Oper} {o : Oper} {K : Act → World → Prop}
theorem run_call {f : FuncId} {xs : Array Operand} {ats : Array TypeId} {ρ : Operand → Value} {w : World} (hf : callOk P f = true) (ho : o.op = .call { callee := .value (.func f), args := xs, argTypes := ats }) (hfn : ρ (.func f) = .func (.func f) #[] #[]) :
    (execOp ρ o).run P w = .ok (.enter f (xs.map ρ)) w := by
  unfold callOk at hf
  cases hp : P.funcs[f]? with
  | none => rw [hp] at hf; simp at hf
  | some fn =>
    rw [hp] at hf
    simp only [Bool.and_eq_true, bne_iff_ne, ne_eq] at hf
    have hn : ¬ fn.body = none := by cases hb : fn.body <;> simp_all
    simp [execOp, ho, resolve, hfn, Deferred.ofValue, invoke, callFunc, hp, hf.1, hn]
theorem args_env {a : Act} (r : Rep n env a) {xs : Array Operand} {args : List Value} (h : xs.toList.map (ev env) = args.map some) : xs.map a.eval = args.toArray := by
  apply Array.ext'
  simp only [Array.toList_map]
  obtain ⟨l⟩ := xs
  simp only at h ⊢
  induction l generalizing args with
  | nil => cases args <;> simp_all
  | cons y l ih =>
    cases args with
    | nil => simp at h
    | cons v args =>
      simp only [List.map_cons, List.cons.injEq] at h
      simp [r.ev h.1, ih h.2]
/-- a call by its contract, in full -/
theorem A.call {σ : Type} (d : Option Nat) {f : FuncId} {xs : Array Operand} {ats : Array TypeId} (args : List Value) (rv : σ → Value) (φ : σ → Prop) (Hf : σ → List Item)
    (hok : headOk ops n env o d = true) (ho : o.op = .call { callee := .value (.func f), args := xs, argTypes := ats }) (hf : callOk P f = true) (hx : xs.toList.map (ev env) = args.map some)
    (hc : ∀ w, HS w0 S H w → Calls P f args.toArray w fun e w' => ∃ x, e = .returned (rv x) ∧ φ x ∧ HS w0 S (Hf x) w')
    (h : ∀ x, φ x → A n (putE env d (rv x)) w0 S (Hf x) K) : A n env w0 S H (Step P ops o K) := by
  intro a w r s
  obtain ⟨h1', h2, h3, h4⟩ := headOk_spec hok
  unfold Step
  rw [if_pos (wanted_of r h1')]
  unfold Oper.wp
  rw [run_call hf ho (by rfl), args_env r hx]
  simp only [Oper.upon, h2]
  refine (hc w s).mono fun e w' he => ?_
  obtain ⟨x, rfl, hφ, hs⟩ := he
  exact h x hφ _ _ (r.putE h3) hs
/-- a call that yields v and turns no old block -/
theorem qt_call {f : FuncId} {xs : Array Operand} {ats : Array TypeId} {v : Value} (args : List Value) (ho : o.op = .call { callee := .value (.func f), args := xs, argTypes := ats }) (hf : callOk P f = true)
    (hx : xs.toList.map (ev env) = args.map some) (hc : ∀ w, HS w0 S H w → Calls P f args.toArray w fun e w' => e = .returned v ∧ Fr [] w w') : Qt P n env w0 S H o v := by
  intro a w r s
  rw [run_call hf ho (by rfl), args_env r hx]
  exact hc w s

/-! ### a function's contract from its body -/
theorem calls_of {f : FuncId} {fn : Func} {c : Code} {args : List Value} {w : World} {R : Ending → World → Prop} (env : Env) (S : List Nat) (H : List Item)
    (hf : P.funcs[f]? = some fn) (hb : fn.body = some c) (hn : (Nat.ble args.length fn.ntmps) = true) (he : ∀ i v, look env i = some v → args[i]? = some v) (hs : HS w S H w)
    (h : A fn.ntmps env w S H (c.wp P (bodyPost P fn R))) : Calls P f args.toArray w R := by
  refine calls_of_wp hf hb (h _ _ ⟨?_, rfl, fun i v hv => ?_⟩ hs)
  · have := Nat.le_of_ble_eq_true hn
    simp; omega
  · have hi := he i v hv
    have hlt : i < args.length := (List.getElem?_eq_some_iff.1 hi).1
    simp only [Array.getD_eq_getD_getElem?]
    rw [Array.getElem?_append_left (by simpa using hlt)]
    simp [hi]
/-- the parameters' slots -/
def penv (args : List Value) : Env := (List.range args.length).zip args
theorem look_zip : ∀ (args : List Value) (k i : Nat) (v : Value), look ((List.range' k args.length).zip args) i = some v → k ≤ i ∧ args[i - k]? = some v
  | [], _, _, _, h => by simp [look] at h
  | a :: args, k, i, v, h => by
    simp only [List.length_cons, List.range'_succ, List.zip_cons_cons] at h
    rcases look_put h with ⟨rfl, rfl⟩ | ⟨hne, hl⟩
    · simp
    · have ⟨h1, h2⟩ := look_zip args (k + 1) i v hl
      refine ⟨by omega, ?_⟩
      rw [show i - k = (i - (k + 1)) + 1 from by omega]; simpa using h2
theorem look_penv (args : List Value) (i : Nat) (v : Value) (h : look (penv args) i = some v) : args[i]? = some v := by
  unfold penv at h
  rw [List.range_eq_range'] at h
  simpa using (look_zip args 0 i v h).2

/-! ### returns -/
def RV (P : Program) (w : World) (a : Act) : ResultVar → Value → Prop
  | .tmp t, v => a.tmps.getD t undef = v
  | .cell x t, v => ∃ p, a.tmps.getD x undef = .pointer (some p) ∧ (loadVar t p).run P w = .ok v w
def RVs (P : Program) (w : World) (a : Act) : List ResultVar → List Value → Prop
  | [], [] => True
  | r :: l, v :: vs => RV P w a r v ∧ RVs P w a l vs
  | _, _ => False
def resF (a : Act) : ResultVar → Sem Value
  | .tmp t => Pure.pure (a.tmps.getD t undef)
  | .cell x t => do loadVar t (← asAddr (a.tmps.getD x undef))
theorem run_resultsL {w : World} {a : Act} : ∀ (l : List ResultVar) (vs : List Value), RVs P w a l vs → (l.mapM (resF a)).run P w = .ok vs w
  | [], [], _ => rfl
  | [], _ :: _, h => h.elim
  | _ :: _, [], h => h.elim
  | r :: l, v :: vs, ⟨hr, hl⟩ => by
    have ih := run_resultsL l vs hl
    simp only [List.mapM_cons, Sem.run_bind]
    cases r with
    | tmp t => simp only [RV] at hr; simp [resF, hr, ih]
    | cell x t =>
      obtain ⟨p, hp, hld⟩ := hr
      simp [resF, hp, asAddr, hld, ih]
def outOf : List Value → Value
  | [v] => v
  | vs => .tuple vs.toArray
theorem run_results {fn : Func} {w : World} {a : Act} {vs : List Value} (h : RVs P w a fn.results.toList vs) :
    (results fn a.tmps).run P w = .ok (outOf vs) w := by
  have h1 := run_resultsL _ _ h
  have h2 : (fn.results.mapM (resF a)).run P w = .ok vs.toArray w := by
    rw [Array.mapM_eq_mapM_toList]
    simp [h1]
  unfold results
  rw [Sem.run_bind]
  refine Eq.trans (congrArg (fun x => Result.andThen x _) h2) ?_
  match vs with
  | [] => simp [outOf]
  | [v] => simp [outOf]
  | _ :: _ :: _ => simp [outOf]
theorem rv_tmp {w : World} {a : Act} {t : Tmp} {v : Value} (r : Rep n env a) (h : look env t = some v) : RV P w a (.tmp t) v := r.get t v h
theorem rv_cell1 {w : World} {a : Act} {x : Tmp} {t : TypeId} {p : Addr} {v : Value} (r : Rep n env a) (s : HS w0 S H w) (h : look env x = some (.pointer (some p))) (ht : isScalar P t = true) (hr : Reads w0 S H p [v]) : RV P w a (.cell x t) v :=
  ⟨p, r.get x _ h, run_load_scalar ht (by have := hr w s 0 v rfl; simpa [Addr.add] using this)⟩
theorem rv_cellN {w : World} {a : Act} {x : Tmp} {t : TypeId} {p : Addr} {vs : List Value} (r : Rep n env a) (s : HS w0 S H w) (h : look env x = some (.pointer (some p))) (ht : aggOf P t = some vs.length) (hr : Reads w0 S H p vs) : RV P w a (.cell x t) (.agg vs.toArray) :=
  ⟨p, r.get x _ h, run_load_agg ht (hr w s)⟩
theorem A.post {fn : Func} {R : Ending → World → Prop} (vs : List Value) (hv : ∀ a w, Rep n env a → HS w0 S H w → RVs P w a fn.results.toList vs)
    (h : ∀ w, HS w0 S H w → R (.returned (outOf vs)) w) : A n env w0 S H (bodyPost P fn R .ret) :=
  fun a w r s => ⟨r.nod, _, run_results (hv a w r s), h w s⟩
theorem A.postn {fn : Func} {R : Ending → World → Prop} (vs : List Value) (hv : ∀ a w, Rep n env a → HS w0 S H w → RVs P w a fn.results.toList vs)
    (h : ∀ w, HS w0 S H w → R (.returned (outOf vs)) w) : A n env w0 S H (bodyPost P fn R .normal) :=
  fun a w r s => ⟨r.nod, _, run_results (hv a w r s), h w s⟩
end calls
end Go.Proofs.Ytinnnoimmioaiaa.V
namespace Go.Proofs.Ytinnnoimmioaiaa.V
open Go

/-- whatever order comes up from here on, from this world and from every one that has grown out of it; behind each operation S -/
def U (P : Program) (ops : Array Oper) (K : Act → World → Prop) (S : World → Prop) : Nat → Array Bool → Act → World → Prop
  | 0, listed, a, w => Region.ready .any ops listed = [] ∧ ∀ w', Fr [] w w' → K a w'
  | f + 1, listed, a, w => (Region.ready .any ops listed = [] → ∀ w', Fr [] w w' → K a w') ∧
    ∀ i ∈ Region.ready .any ops listed, ∀ w', Fr [] w w' → wpOp P ops Qf i (fun a' w'' => S w'' ∧ U P ops K S f (listed.setIfInBounds i true) a' w'') a w'

section
variable {P : Program} {ops : Array Oper} {K : Act → World → Prop} {S : World → Prop} {Q : Exit → Act → World → Prop}
theorem U.up : ∀ {f : Nat} {listed : Array Bool} {a : Act} {w w' : World}, U P ops K S f listed a w → Fr [] w w' → U P ops K S f listed a w'
  | 0, _, _, _, _, h, hf => ⟨h.1, fun w'' hf' => h.2 w'' (hf.trans hf')⟩
  | _ + 1, _, _, _, _, h, hf => ⟨fun h0 w'' hf' => h.1 h0 w'' (hf.trans hf'), fun i hi w'' hf' => h.2 i hi w'' (hf.trans hf')⟩
theorem wpOp_of {i : Nat} {a : Act} {w : World} {K K' : Act → World → Prop} (h : wpOp P ops Qf i K a w) (hk : ∀ a w, K a w → K' a w) : wpOp P ops Q i K' a w := by
  unfold wpOp at *
  split
  · rename_i ho; simp only [ho] at h; exact hk _ _ h
  · rename_i o ho
    simp only [ho] at h
    split
    · rename_i hw
      simp only [hw, if_true] at h
      rcases h with h | ⟨_, _, _, hf⟩
      · exact .inl (Oper.wp_imp h hk)
      · exact hf.elim
    · rename_i hw; simp only [hw] at h; exact hk _ _ h
theorem U.sound : ∀ (f : Nat) (listed : Array Bool) (a : Act) (w : World), U P ops (Q .normal) S f listed a w → wpAny P .any ops Q f listed a w
  | 0, _, _, _, h => ⟨h.1, h.2 _ (Fr.refl _ _)⟩
  | f + 1, _, _, w, h => ⟨fun h0 => h.1 h0 _ (Fr.refl _ _), fun i hi => wpOp_of (h.2 i hi w (Fr.refl _ _)) fun a' w' h' => U.sound f _ a' w' h'.2⟩

/-- operation o yields v in state a, in every world that meets S -/
def Quiet (P : Program) (ops : Array Oper) (S : World → Prop) (o : Oper) (v : Value) (a : Act) : Prop :=
  (Region.wanted o (yielded ops a.tmps) = true ∧ ∀ w, S w → quietUpon P w v ((execOp a.eval o).run P w)) ∨ (Region.wanted o (yielded ops a.tmps) = false ∧ v = undef)
theorem Quiet.of_same {o : Oper} {v : Value} {a a' : Act} (hy : Quiet P ops S o v a) (he : execOp a'.eval o = execOp a.eval o) (hw : Region.wanted o (yielded ops a'.tmps) = Region.wanted o (yielded ops a.tmps)) : Quiet P ops S o v a' := by
  unfold Quiet at *
  rw [he, hw]
  exact hy
theorem Quiet.wpOp {i : Nat} {o : Oper} {v : Value} {a : Act} {w : World} (hi : ops[i]? = some o) (hy : Quiet P ops S o v a) (hS : S w) (h : ∀ w', Fr [] w w' → K (a.put o.dst v) w') : wpOp P ops Qf i K a w := by
  unfold Go.wpOp
  simp only [hi]
  rcases hy with ⟨hw, hv⟩ | ⟨hw, rfl⟩
  · simp only [hw, if_true]; exact .inl (wp_of_quiet (hv w hS) h)
  · simp only [hw, Bool.false_eq_true, if_false]; exact h w (Fr.refl _ _)
theorem wpOp_comm {j : Nat} {oi oj : Oper} {v : Value} (hj : ops[j]? = some oj) (hap : oi.apart ops oj = true) (hsi : ∀ cs b, oi.op ≠ .select cs b) (hsj : ∀ cs b, oj.op ≠ .select cs b)
    {a : Act} {w : World} (hy : Quiet P ops S oi v a) (h : wpOp P ops Qf j K (a.put oi.dst v) w) : wpOp P ops Qf j (fun a' w' => Quiet P ops S oi v a' ∧ K (a'.put oi.dst v) w') a w := by
  obtain ⟨h1, h2, h3⟩ := Oper.apart_spec hap
  have keep : ∀ (a : Act), Quiet P ops S oi v a → ∀ u, Quiet P ops S oi v (a.put oj.dst u) := fun a hy u => hy.of_same (execOp_put oi hsi a oj.dst u h3) (wanted_put oi a oj.dst u h3)
  have keepD : ∀ d, Quiet P ops S oi v { a with defers := d :: a.defers } := fun d => hy.of_same rfl rfl
  unfold wpOp at *
  simp only [hj] at *
  rw [wanted_put oj a oi.dst v h1] at h
  split
  · rename_i hw
    simp only [hw, if_true] at h
    rcases h with h | ⟨_, _, _, hf⟩
    case inr => exact hf.elim
    refine .inl ?_
    unfold Oper.wp at *
    rw [execOp_put oj hsj a oi.dst v h1] at h
    generalize (execOp a.eval oj).run P w = r at *
    cases r with
    | ok nx w' =>
      cases nx <;> simp only [Oper.upon] at h ⊢
      case value u => exact ⟨keep a hy u, by rw [← Act.put_comm a v u h2]; exact h⟩
      case skip => exact ⟨keep a hy _, by rw [← Act.put_comm a v undef h2]; exact h⟩
      case defer d =>
        refine ⟨keep _ (keepD d) _, ?_⟩
        rw [← Act.put_comm _ v undef h2, ← Act.put_defers]
        exact h
      case enter f args =>
        refine Calls.mono h fun e w'' he => ?_
        cases e with
        | returned u => exact ⟨keep a hy u, by rw [← Act.put_comm a v u h2]; exact he⟩
        | panicked c => exact he.elim
        | outgrown => obtain ⟨_, _, hf⟩ := he; exact hf.elim
      case row row args => exact Rows.mono h fun u w'' he => ⟨keep a hy u, by rw [← Act.put_comm a v u h2]; exact he⟩
    | halt x w' => cases x <;> simp only [Oper.upon] at h ⊢ <;> exact h.elim
  · rename_i hw
    simp only [hw] at h
    exact ⟨keep a hy _, by rw [← Act.put_comm a v undef h2]; exact h⟩
theorem U.first {i : Nat} {oi : Oper} {v : Value} (hi : ops[i]? = some oi) (hsel : ∀ (j : Nat) (o : Oper) cs b, ops[j]? = some o → o.op ≠ .select cs b) (hcl : ∀ w w', S w → Fr [] w w' → S w') :
    ∀ (f : Nat) (listed : Array Bool) (a : Act) (w : World),
      (∀ j oj, ops[j]? = some oj → j ≠ i → listed.getD j true = false → (∀ e ∈ oj.after, Region.binds .any e = true → e.on ≠ i) → oi.apart ops oj = true) →
      i ∈ Region.ready .any ops listed → Quiet P ops S oi v a → S w → U P ops K S f (listed.setIfInBounds i true) (a.put oi.dst v) w → U P ops K S (f + 1) listed a w := by
  intro f
  induction f with
  | zero =>
    intro listed a w _ hr hy hS H
    refine ⟨fun h => (by rw [h] at hr; cases hr), fun j hj w' hf => ?_⟩
    by_cases hji : j = i
    · subst hji; exact hy.wpOp hi (hcl _ _ hS hf) fun w'' hf' => ⟨hcl _ _ (hcl _ _ hS hf) hf', H.up (hf.trans hf')⟩
    · have := ready_mono hj hji
      rw [H.1] at this
      cases this
  | succ f ih =>
    intro listed a w hfree hr hy hS H
    refine ⟨fun h => (by rw [h] at hr; cases hr), fun j hj w' hf => ?_⟩
    have hS' := hcl _ _ hS hf
    by_cases hji : j = i
    · subst hji; exact hy.wpOp hi hS' fun w'' hf' => ⟨hcl _ _ hS' hf', H.up (hf.trans hf')⟩
    · have h1 := H.2 j (ready_mono hj hji) w' hf
      obtain ⟨hjun, oj, hoj, hall⟩ := mem_ready.1 hj
      have hnot : ∀ e ∈ oj.after, Region.binds .any e = true → e.on ≠ i := fun e he hb heq => by
        have h1 := hall e he hb
        have h0 := (mem_ready.1 hr).1
        rw [heq] at h1
        rcases Nat.lt_or_ge i listed.size with h' | h'
        · simp [h'] at h0 h1; rw [h0] at h1; cases h1
        · simp [Array.getElem?_eq_none h'] at h1
      have h2 := wpOp_comm hoj (hfree j oj hoj hji hjun hnot) (fun cs b => hsel i oi cs b hi) (fun cs b => hsel j oj cs b hoj) hy h1
      have hfree' : ∀ k ok, ops[k]? = some ok → k ≠ i → (listed.setIfInBounds j true).getD k true = false → (∀ e ∈ ok.after, Region.binds .any e = true → e.on ≠ i) → oi.apart ops ok = true := fun k ok hk hki hun hno => by
        refine hfree k ok hk hki ?_ hno
        by_cases hjk : j = k
        · subst hjk; exact hjun
        · rw [getD_set_ne true hjk] at hun; exact hun
      refine wpOp_of h2 fun a' w'' h3 => ⟨h3.2.1, ih (listed.setIfInBounds j true) a' w'' hfree' (ready_mono hr (Ne.symm hji)) h3.1 h3.2.1 ?_⟩
      rw [Array.setIfInBounds_comm _ _ hji]
      exact h3.2.2
end

def takeOk (ops : Array Oper) (listed : Array Bool) (i : Nat) : Bool := Region.free .any ops listed i && (Region.ready .any ops listed).contains i && Region.noSelect ops
section
variable {P : Program} {Q : Exit → Act → World → Prop} {n : Nat} {env : Env} {w0 : World} {S : List Nat} {H Hs : List Item} {l : List Oper} {ops : Array Oper} {K : Act → World → Prop} {f : Nat} {listed : Array Bool}
/-- the beginning; Hs: what holds all along -/
theorem A.draw {id : Nat} (Hs : List Item) (hm : P.follows .mixedOrders = true) (h : A n env w0 S H (U P l.toArray (Q .normal) (HS w0 S Hs) l.length (Array.replicate l.length false))) :
    A n env w0 S H ((Code.region id l.toArray true).wp P Q) := fun a w r s =>
  wp_region_any hm (U.sound _ _ _ _ (by simpa using h a _ r (s.kept (Fr.drew _ _))))
/-- number i is taken first -/
theorem A.take (i : Nat) (d : Option Nat) (v : Value) {o : Oper} (hi : ops[i]? = some o) (ht : takeOk ops listed i = true) (hok : headOk ops n env o d = true) (hs : List.Sublist Hs H) (hq : Qt P n env w0 S Hs o v)
    (h : A n (putE env d v) w0 S H (U P ops K (HS w0 S Hs) f (listed.setIfInBounds i true))) : A n env w0 S H (U P ops K (HS w0 S Hs) (f + 1) listed) := by
  intro a w r s
  obtain ⟨h1, h2, h3, _⟩ := headOk_spec hok
  simp only [takeOk, Bool.and_eq_true] at ht
  refine U.first hi (Region.noSelect_spec ht.2) (fun w w' hw hf => hw.kept hf) f listed a w (Region.free_spec hi ht.1.1) (by simpa using ht.1.2) (.inl ⟨wanted_of r h1, fun w' s' => hq a w' r s'⟩) (s.sub hs) ?_
  rw [h2]
  exact h _ w (r.putE h3) s
/-- number i is passed over first -/
theorem A.takeJ (i : Nat) (d : Option Nat) {o : Oper} (hi : ops[i]? = some o) (ht : takeOk ops listed i = true) (hw : wantedE ops env o = some false) (hd : o.dst = d) (hn : ∀ x, d = some x → Nat.blt x n = true) (hs : List.Sublist Hs H)
    (h : A n (putE env d undef) w0 S H (U P ops K (HS w0 S Hs) f (listed.setIfInBounds i true))) : A n env w0 S H (U P ops K (HS w0 S Hs) (f + 1) listed) := by
  intro a w r s
  simp only [takeOk, Bool.and_eq_true] at ht
  refine U.first (v := undef) hi (Region.noSelect_spec ht.2) (fun w w' hw hf => hw.kept hf) f listed a w (Region.free_spec hi ht.1.1) (by simpa using ht.1.2) (.inr ⟨wanted_of r hw, rfl⟩) (s.sub hs) ?_
  rw [hd]
  exact h _ w (r.putE fun x hx => Nat.le_of_ble_eq_true (hn x hx)) s
/-- number i alone may come up -/
theorem A.only (i : Nat) {o : Oper} (hi : ops[i]? = some o) (hr : Region.ready .any ops listed = [i])
    (h : A n env w0 S H (Step P ops o (fun a w => HS w0 S Hs w ∧ U P ops K (HS w0 S Hs) f (listed.setIfInBounds i true) a w))) : A n env w0 S H (U P ops K (HS w0 S Hs) (f + 1) listed) := by
  intro a w r s
  refine ⟨fun h0 => (by rw [hr] at h0; cases h0), fun j hj w' hf => ?_⟩
  rw [hr, List.mem_singleton] at hj
  subst hj
  have h1 := h a w' r (s.kept hf)
  unfold Step at h1
  unfold wpOp
  simp only [hi]
  split
  · rename_i hw; rw [if_pos hw] at h1; exact .inl h1
  · rename_i hw; rw [if_neg hw] at h1; exact h1
theorem A.and (hs : List.Sublist Hs H) (h : A n env w0 S H K) : A n env w0 S H (fun a w => HS w0 S Hs w ∧ K a w) := fun a w r s => ⟨s.sub hs, h a w r s⟩
theorem A.fin (hr : Region.ready .any ops listed = []) (h : A n env w0 S H K) : A n env w0 S H (U P ops K (HS w0 S Hs) f listed) := by
  intro a w r s
  cases f with
  | zero => exact ⟨hr, fun w' hf => h a w' r (s.kept hf)⟩
  | succ f => exact ⟨fun _ w' hf => h a w' r (s.kept hf), by rw [hr]; simp⟩
/-- what is behind is given a name: the region's ways meet there -/
theorem A.cutR {c : Code} {σ : Type} (envf : σ → Env) (Hf : σ → List Item) (φ : σ → Prop) (h : A n env w0 S H (c.wp P (fun e a w => match e with | .normal => ∃ z, φ z ∧ Rep n (envf z) a ∧ HS w0 S (Hf z) w | _ => Q e a w)))
    (h' : ∀ z, φ z → A n (envf z) w0 S (Hf z) (Q .normal)) : A n env w0 S H (c.wp P Q) :=
  fun a w r s => wp_mono (h a w r s) fun e a w hq => by
    cases e <;> first | exact hq | skip
    obtain ⟨z, hz, r, s⟩ := hq
    exact h' z hz a w r s
end
end Go.Proofs.Ytinnnoimmioaiaa.V
namespace Go.Proofs.Ytinnnoimmioaiaa.V
open Go
def partV (P : Program) (t : TypeId) (cs : Array Value) (off : Nat) : Option Value :=
  match aggOf P t with
  | some k => some (.agg (cs.extract off (off + k)))
  | none => if isScalar P t then cs[off]? else none
def eqFs (eq : TypeId → Value → Value → Option Bool) (P : Program) (xs ys : Array Value) : List Field → Option Bool
  | [] => some true
  | f :: fs => if f.name = "_" then none else
    match partV P f.type xs f.offset, partV P f.type ys f.offset with
    | some a, some b => match eq f.type a b with
      | some r => match fs with
        | [] => some r
        | g :: gs => match eqFs eq P xs ys (g :: gs) with
          | some q => some (r && q)
          | none => none
      | none => none
    | _, _ => none
def eqAs (eq : TypeId → Value → Value → Option Bool) (P : Program) (e : TypeId) (k : Nat) (xs ys : Array Value) : Nat → Nat → Option Bool
  | 0, _ => some true
  | n + 1, i =>
    match partV P e xs (i * k), partV P e ys (i * k) with
    | some a, some b => match eq e a b with
      | some r => match n with
        | 0 => some r
        | m + 1 => match eqAs eq P e k xs ys (m + 1) (i + 1) with
          | some q => some (r && q)
          | none => none
      | none => none
    | _, _ => none
def eqV (P : Program) : Nat → TypeId → Value → Value → Option Bool
  | 0, _, _, _ => none
  | d + 1, t, x, y => match P.underlying t, x, y with
    | some .bool, .bool a, .bool b => some (a == b)
    | some (.int _), .int k a, .int k' b => if k = k' then some (a == b) else none
    | some .string, .string a, .string b => some (a == b)
    | some (.struct fs), .agg xs, .agg ys => if P.stoodInHeld t then none else eqFs (eqV P d) P xs ys fs.toList
    | some (.array n e), .agg xs, .agg ys => match P.info? e with
      | some i => eqAs (eqV P d) P e i.size xs ys n 0
      | none => none
    | _, _, _ => none

section
variable {P : Program} (w : World)
theorem run_part {t : TypeId} {cs : Array Value} {off : Nat} {v : Value} (h : partV P t cs off = some v) : (part t cs off).run P w = .ok v w := by
  unfold partV at h
  cases ha : aggOf P t with
  | some k =>
    rw [ha] at h
    obtain ⟨h1, h2⟩ := run_isAgg_agg ha w
    simp at h; subst h
    simp [part, h1, h2]
  | none =>
    rw [ha] at h
    simp only at h
    split at h
    · rename_i hs
      simp [part, run_isAgg_scalar hs, h]
    · cases h
theorem run_eqFs {d : Nat} {xs ys : Array Value} (ih : ∀ t x y b, eqV P d t x y = some b → (Op.equalIn d t x y).run P w = .ok b w) :
    ∀ (fs : List Field) (b : Bool), eqFs (eqV P d) P xs ys fs = some b → (Op.eqFields d xs ys fs).run P w = .ok b w
  | [], b, h => by simp [eqFs] at h; subst h; simp [Op.eqFields]
  | f :: fs, b, h => by
    unfold eqFs at h
    split at h
    · cases h
    · rename_i hn
      cases ha : partV P f.type xs f.offset with
      | none => rw [ha] at h; simp at h
      | some u =>
        cases hb : partV P f.type ys f.offset with
        | none => rw [ha, hb] at h; simp at h
        | some v =>
          rw [ha, hb] at h
          simp only at h
          cases he : eqV P d f.type u v with
          | none => rw [he] at h; simp at h
          | some r =>
            rw [he] at h
            simp only at h
            have hr := ih _ _ _ _ he
            simp only [Op.eqFields, if_pos hn, Sem.run_bind, run_part w ha, run_part w hb, Result.andThen_ok, hr]
            cases fs with
            | nil =>
              simp at h; subst h
              cases r <;> simp [Op.eqFields]
            | cons g gs =>
              simp only at h
              cases hq : eqFs (eqV P d) P xs ys (g :: gs) with
              | none => rw [hq] at h; simp at h
              | some q =>
                rw [hq] at h
                simp at h; subst h
                have := run_eqFs ih (g :: gs) q hq
                cases r <;> simp [this]
/-- the loop over an array's elements, as the model has it -/
def arrLoop (d : Nat) (e : TypeId) (k : Nat) (xs ys : Array Value) : List Nat → Sem Bool
  | [] => Pure.pure true
  | i :: l => do if !(← Op.equalIn d e (← part e xs (i * k)) (← part e ys (i * k))) then return false else arrLoop d e k xs ys l
theorem run_equalIn_array (d : Nat) (t e : TypeId) (n : Nat) (i : TypeInfo) (xs ys : Array Value) (ht : P.underlying t = some (.array n e)) (hi : P.info? e = some i) :
    (Op.equalIn (d + 1) t (.agg xs) (.agg ys)).run P w = (arrLoop d e i.size xs ys (List.range' 0 n)).run P w := by
  simp only [Op.equalIn, Sem.run_bind, run_underlying ht, Result.andThen_ok, sizeOf, typeInfo, run_program, hi, Sem.run_pure]
  rw [Std.Legacy.Range.forIn_eq_forIn_range']
  simp only [Std.Legacy.Range.size, Nat.sub_zero, Nat.add_sub_cancel, Nat.div_one]
  generalize List.range' 0 n = l
  induction l generalizing w with
  | nil => simp [arrLoop]
  | cons j l ih =>
    simp only [List.forIn_cons, arrLoop, Sem.run_bind, Sem.run_ite]
    generalize (part e xs (j * i.size)).run P w = r1
    cases r1 with
    | ok a w1 =>
      simp only [Result.andThen_ok]
      generalize (part e ys (j * i.size)).run P w1 = r2
      cases r2 with
      | ok b w2 =>
        simp only [Result.andThen_ok]
        generalize (Op.equalIn d e a b).run P w2 = r3
        cases r3 with
        | ok r w3 =>
          cases r
          · simp
          · simp only [Result.andThen_ok, Bool.not_true, Bool.false_eq_true, if_false, Sem.run_pure]
            exact ih w3
        | halt x w3 => simp [Result.andThen]
      | halt x w2 => simp [Result.andThen]
    | halt x w1 => simp [Result.andThen]
theorem run_eqAs {d : Nat} {e : TypeId} {k : Nat} {xs ys : Array Value} (ih : ∀ t x y b, eqV P d t x y = some b → (Op.equalIn d t x y).run P w = .ok b w) :
    ∀ (n i : Nat) (b : Bool), eqAs (eqV P d) P e k xs ys n i = some b → (arrLoop d e k xs ys (List.range' i n)).run P w = .ok b w
  | 0, i, b, h => by simp [eqAs] at h; subst h; simp [arrLoop]
  | n + 1, i, b, h => by
    unfold eqAs at h
    cases ha : partV P e xs (i * k) with
    | none => rw [ha] at h; simp at h
    | some u =>
      cases hb : partV P e ys (i * k) with
      | none => rw [ha, hb] at h; simp at h
      | some v =>
        rw [ha, hb] at h
        simp only at h
        cases he : eqV P d e u v with
        | none => rw [he] at h; simp at h
        | some r =>
          rw [he] at h
          simp only at h
          have hr := ih _ _ _ _ he
          rw [List.range'_succ]
          simp only [arrLoop, Sem.run_bind, run_part w ha, run_part w hb, Result.andThen_ok, hr]
          cases n with
          | zero =>
            simp at h; subst h
            cases r <;> simp [arrLoop]
          | succ m =>
            simp only at h
            cases hq : eqAs (eqV P d) P e k xs ys (m + 1) (i + 1) with
            | none => rw [hq] at h; simp at h
            | some q =>
              rw [hq] at h
              simp at h; subst h
              have := run_eqAs ih (m + 1) (i + 1) q hq
              cases r <;> simp [this]
theorem run_eqV : ∀ (d : Nat) (t : TypeId) (x y : Value) (b : Bool), eqV P d t x y = some b → (Op.equalIn d t x y).run P w = .ok b w
  | 0, _, _, _, _, h => by simp [eqV] at h
  | d + 1, t, x, y, b, h => by
    have ih := run_eqV d
    simp only [eqV] at h
    cases hu : P.underlying t with
    | none => rw [hu] at h; simp at h
    | some u =>
      rw [hu] at h
      cases u <;> cases x <;> cases y <;> simp at h <;> (try (exact h.elim))
      case int.int.int k k1 a k2 c =>
        obtain ⟨rfl, rfl⟩ := h
        simp [Op.equalIn, run_underlying hu]
      case bool.bool.bool a c =>
        subst h
        simp [Op.equalIn, run_underlying hu]
      case string.string.string a c =>
        subst h
        simp [Op.equalIn, run_underlying hu]
      case struct.agg.agg fs xs ys =>
        obtain ⟨hp, h⟩ := h
        have hf : P.fieldsOf t = fs := by simp [Program.fieldsOf, hu]
        rw [run_equalIn_struct w d t xs ys (by rw [hf]; exact hu) hp, hf]
        exact run_eqFs w ih _ _ h
      case array.agg.agg n e xs ys =>
        cases hi : P.info? e with
        | none => rw [hi] at h; simp at h
        | some i =>
          rw [hi] at h
          rw [run_equalIn_array w d t e n i xs ys hu hi]
          exact run_eqAs w ih n 0 b h
end
section
variable {P : Program} {n : Nat} {env : Env} {w0 : World} {S : List Nat} {H : List Item} {o : Oper}
/-- '==' and '!=' of two structs or arrays -/
theorem qt_eqlA {t ty : TypeId} {x y : Operand} {xs ys : Array Value} {b : Bool} (ho : o.op = .binOp .eql t x y ty) (hx : ev env x = some (.agg xs)) (hy : ev env y = some (.agg ys)) (hg : P.eqGuardType P.depth t = false)
    (h : eqV P 10000 t (.agg xs) (.agg ys) = some b) : Qt P n env w0 S H o (.bool b) :=
  qt_same fun a w r _ => by
    have h1 := run_eqV (P := P) w _ _ _ _ _ h
    simp [execOp, ho, r.ev hx, r.ev hy, run_eqGuard_agg w _ t x y xs ys hg, run_eql_struct, h1]
theorem qt_neqA {t ty : TypeId} {x y : Operand} {xs ys : Array Value} {b : Bool} (ho : o.op = .binOp .neq t x y ty) (hx : ev env x = some (.agg xs)) (hy : ev env y = some (.agg ys)) (hg : P.eqGuardType P.depth t = false)
    (h : eqV P 10000 t (.agg xs) (.agg ys) = some b) : Qt P n env w0 S H o (.bool (!b)) :=
  qt_same fun a w r _ => by
    have h1 := run_eqV (P := P) w _ _ _ _ _ h
    simp [execOp, ho, r.ev hx, r.ev hy, run_eqGuard_agg w _ t x y xs ys hg, run_neq_struct, h1]
theorem qt_eqlB {t ty : TypeId} {x y : Operand} {b c : Bool} (ho : o.op = .binOp .eql t x y ty) (hx : ev env x = some (.bool b)) (hy : ev env y = some (.bool c)) (ht : P.underlying t = some .bool) : Qt P n env w0 S H o (.bool (b == c)) :=
  qt_same fun a w r _ => by simp [execOp, ho, r.ev hx, r.ev hy, eqGuard, binOp, run_equal_bool w t b c ht]
theorem qt_neqB {t ty : TypeId} {x y : Operand} {b c : Bool} (ho : o.op = .binOp .neq t x y ty) (hx : ev env x = some (.bool b)) (hy : ev env y = some (.bool c)) (ht : P.underlying t = some .bool) : Qt P n env w0 S H o (.bool (!(b == c))) :=
  qt_same fun a w r _ => by simp [execOp, ho, r.ev hx, r.ev hy, eqGuard, binOp, run_equal_bool w t b c ht]
end
end Go.Proofs.Ytinnnoimmioaiaa.V
namespace Go.Proofs.Ytinnnoimmioaiaa.V
set_option linter.unusedVariables false
set_option linter.unusedSimpArgs false
open Go

theorem add_add' (a : Addr) (i j : Nat) : (a.add i).add j = a.add (i + j) := by
  unfold Addr.add
  by_cases hi : i = 0 <;> by_cases hj : j = 0 <;> simp [hi, hj, Nat.add_assoc]
/-- where a slice's first element lies -/
def at0 (A : Option Addr) : Addr := A.getD ⟨0, 0, none⟩
/-- the cells from A on are cs -/
def arrAt (w : World) (A : Option Addr) (cs : List Value) : Prop := ∀ j u, cs[j]? = some u → A.isSome = true ∧ w.cell? ((at0 A).add j) = some u
/-- .. in every world at hand -/
def Rd (w0 : World) (S : List Nat) (H : List Item) (A : Option Addr) (cs : List Value) : Prop := ∀ w, HS w0 S H w → arrAt w A cs

/-- a slice of the call's own: n elements of sz cells, room c -/
def slHolds (A : Option Addr) (n c : Nat) (t : TypeId) (sz : Nat) (cs : List Value) (w : World) : Prop :=
  cs.length = n * sz ∧ n ≤ c ∧ c ≤ maxLen ∧ ((A = none ∧ c = 0) ∨ ∃ g off cur, A = some ⟨g, off, none⟩ ∧ w.heap[g]? = some (.cells cur t (0, 0)) ∧ off + c * sz ≤ cur.size ∧ (cur.toList.drop off).take (n * sz) = cs)
def slFoot (A : Option Addr) : List Nat := match A with | some a => [a.block] | none => []
def sl (A : Option Addr) (n c : Nat) (t : TypeId) (sz : Nat) (cs : List Value) : Item where
  foot := slFoot A
  holds := slHolds A n c t sz cs
  loc w w' h hw := by
    obtain ⟨h1, h2, h3, h4⟩ := hw
    refine ⟨h1, h2, h3, h4.imp id ?_⟩
    rintro ⟨g, off, cur, rfl, hg, r⟩
    exact ⟨g, off, cur, rfl, by rw [h g (by simp [slFoot])]; exact hg, r⟩
  here w hw b hb := by
    obtain ⟨_, _, _, h4⟩ := hw
    rcases h4 with ⟨rfl, _⟩ | ⟨g, off, cur, rfl, hg, _⟩
    · simp [slFoot] at hb
    · simp [slFoot] at hb; subst hb; exact (Array.getElem?_eq_some_iff.1 hg).1
theorem slFoot_nodup (A : Option Addr) : (slFoot A).Nodup := by cases A <;> simp [slFoot]
theorem sl_nil (t : TypeId) (sz : Nat) (w : World) : (sl none 0 0 t sz []).holds w := ⟨by simp, Nat.le_refl _, by simp [maxLen], .inl ⟨rfl, rfl⟩⟩

section
variable {w0 : World} {S : List Nat} {H : List Item}
theorem arr_sl {A : Option Addr} {n c : Nat} {t : TypeId} {sz : Nat} {cs : List Value} {w : World} (h : (sl A n c t sz cs).holds w) : arrAt w A cs := by
  intro j u hu
  obtain ⟨h1, _, _, h4⟩ := h
  have hlt : j < cs.length := (List.getElem?_eq_some_iff.1 hu).1
  rcases h4 with ⟨rfl, rfl⟩ | ⟨g, off, cur, rfl, hg, hsz, htake⟩
  · have : n = 0 := by omega
    subst this; simp at h1; subst h1; simp at hlt
  · refine ⟨rfl, ?_⟩
    simp only [at0, Option.getD_some]
    rw [add_lit', cell_of_row w g (off + j) cur t (0, 0) hg]
    rw [← htake, List.getElem?_take] at hu
    split at hu
    · rw [List.getElem?_drop] at hu; simpa using hu
    · cases hu
theorem rd_sl {i : Nat} {A : Option Addr} {n c : Nat} {t : TypeId} {sz : Nat} {cs : List Value} (hi : H[i]? = some (sl A n c t sz cs)) : Rd w0 S H A cs := fun _ s => arr_sl (s.mem hi)
theorem rd_blk {i b off : Nat} {cs : List Value} {t : TypeId} (hi : H[i]? = some (blk b cs t)) : Rd w0 S H (some ⟨b, off, none⟩) (cs.drop off) := by
  intro w s j u hu
  have hh : w.heap[b]? = some (.cells cs.toArray t (0, 0)) := s.mem hi
  refine ⟨rfl, ?_⟩
  simp only [at0, Option.getD_some]
  rw [add_lit', cell_of_row w b (off + j) cs.toArray t (0, 0) hh]
  rw [List.getElem?_drop] at hu; simpa using hu
theorem rd_old {A : Option Addr} {cs : List Value} (h : arrAt w0 A cs) (hS : ∀ a, A = some a → a.block ∉ S) : Rd w0 S H A cs := by
  intro w s j u hu
  obtain ⟨h1, hc⟩ := h j u hu
  obtain ⟨a, rfl⟩ := Option.isSome_iff_exists.1 h1
  refine ⟨rfl, ?_⟩
  simp only [at0, Option.getD_some] at hc ⊢
  have hb : (a.add j).block = a.block := by unfold Addr.add; split <;> rfl
  rw [← hc]
  exact World.cell?_of_block (s.fr.block _ (World.block_lt_of_cell? w0 _ hc) (by rw [hb]; exact hS a rfl))
theorem arr_cut {w : World} {A : Option Addr} {cs : List Value} (h : arrAt w A cs) (k : Nat) : arrAt w (A.map (·.add k)) (cs.drop k) := by
  intro j u hu
  rw [List.getElem?_drop] at hu
  obtain ⟨h1, h2⟩ := h _ _ hu
  obtain ⟨a, rfl⟩ := Option.isSome_iff_exists.1 h1
  refine ⟨rfl, ?_⟩
  simp only [at0, Option.map_some, Option.getD_some, add_add'] at h2 ⊢
  exact h2
theorem arr_take {w : World} {A : Option Addr} {cs : List Value} (h : arrAt w A cs) (k : Nat) : arrAt w A (cs.take k) := by
  intro j u hu
  rw [List.getElem?_take] at hu
  split at hu
  · exact h j u hu
  · cases hu
theorem rd_reads {A : Option Addr} {cs vs : List Value} {m : Nat} (h : Rd w0 S H A cs) (hv : (cs.drop m).take vs.length = vs) : Reads w0 S H ((at0 A).add m) vs := by
  intro w s j u hu
  rw [add_add']
  refine (h w s (m + j) u ?_).2
  rw [← hv, List.getElem?_take] at hu
  split at hu
  · rw [List.getElem?_drop] at hu; exact hu
  · cases hu
end

/-! lists of things, each of sz cells -/
def flat {α : Type} (enc : α → List Value) (xs : List α) : List Value := xs.flatMap enc
theorem flat_len {α : Type} {enc : α → List Value} {sz : Nat} (he : ∀ x, (enc x).length = sz) : ∀ xs : List α, (flat enc xs).length = xs.length * sz
  | [] => by simp [flat]
  | x :: xs => by
    have := flat_len he xs
    simp only [flat, List.flatMap_cons, List.length_append, List.length_cons] at this ⊢
    rw [this, he, Nat.add_mul]; omega
theorem flat_append {α : Type} (enc : α → List Value) (xs ys : List α) : flat enc (xs ++ ys) = flat enc xs ++ flat enc ys := by simp [flat]
theorem flat_drop {α : Type} {enc : α → List Value} {sz : Nat} (he : ∀ x, (enc x).length = sz) : ∀ (xs : List α) (k : Nat), (flat enc xs).drop (k * sz) = flat enc (xs.drop k)
  | xs, 0 => by simp
  | [], k + 1 => by simp [flat]
  | x :: xs, k + 1 => by
    have := flat_drop he xs k
    simp only [flat, List.flatMap_cons, List.drop_succ_cons] at this ⊢
    rw [← this, List.drop_append, he, List.drop_eq_nil_of_le (by rw [he, Nat.add_mul]; omega), List.nil_append, Nat.add_mul]
    congr 1; omega
theorem flat_at {α : Type} {enc : α → List Value} {sz : Nat} (he : ∀ x, (enc x).length = sz) {xs : List α} {k : Nat} {x : α} (hx : xs[k]? = some x) (o m : Nat) (hm : o + m ≤ sz) :
    ((flat enc xs).drop (k * sz + o)).take m = ((enc x).drop o).take m := by
  rw [← List.drop_drop, flat_drop he]
  have hlt := (List.getElem?_eq_some_iff.1 hx).1
  have : xs.drop k = x :: xs.drop (k + 1) := by
    rw [List.drop_eq_getElem_cons hlt]; congr 1
    simpa [List.getElem?_eq_getElem hlt] using hx
  rw [this]
  simp only [flat, List.flatMap_cons]
  rw [List.drop_append_of_le_length (by rw [he]; omega), List.take_append_of_le_length (by rw [List.length_drop, he]; omega)]
theorem flat_set {α : Type} {enc : α → List Value} {sz : Nat} (he : ∀ x, (enc x).length = sz) : ∀ (xs : List α) (k : Nat) (x : α), k < xs.length →
    (flat enc xs).take (k * sz) ++ enc x ++ (flat enc xs).drop (k * sz + sz) = flat enc (xs.set k x)
  | [], k, x, h => by simp at h
  | y :: xs, 0, x, _ => by
    simp only [flat, List.flatMap_cons, List.set_cons_zero, Nat.zero_mul, List.take_zero, List.nil_append, Nat.zero_add]
    rw [List.drop_append_of_le_length (by rw [he]; omega), List.drop_eq_nil_of_le (by rw [he]; omega), List.nil_append]
  | y :: xs, k + 1, x, h => by
    have ih := flat_set he xs k x (by simpa using h)
    simp only [flat, List.flatMap_cons, List.set_cons_succ] at ih ⊢
    rw [← ih, Nat.add_mul, Nat.one_mul]
    rw [show k * sz + sz = (enc y).length + k * sz from by rw [he]; omega]
    rw [List.take_append, List.take_of_length_le (by omega), Nat.add_sub_cancel_left]
    rw [Nat.add_assoc, List.drop_append, List.drop_eq_nil_of_le (by omega), List.nil_append, Nat.add_sub_cancel_left, List.append_assoc, List.append_assoc, List.append_assoc, he y, Nat.add_comm sz (k * sz)]

section
variable {P : Program} {n : Nat} {env : Env} {w0 : World} {S : List Nat} {H : List Item} {ops : Array Oper} {o : Oper} {K : Act → World → Prop}
theorem qt_index {x y : Operand} {t el : TypeId} {A : Option Addr} {len cap sz : Nat} {k : IntKind} {e : Int} {cs : List Value} (ho : o.op = .indexAddr t x y) (hx : ev env x = some (.slice A len cap)) (hy : ev env y = some (.int k e))
    (ht : P.underlying t = some (.slice el)) (hs : (P.info? el).map (·.size) = some sz) (hr : Rd w0 S H A cs) (hl : cs.length = len * sz) (hz : 0 < sz) (hi : 0 ≤ e ∧ e < (len : Int)) :
    Qt P n env w0 S H o (.pointer (some ((at0 A).add (e.toNat * sz)))) :=
  qt_same fun a w r s => by
    have hlt : 0 < cs.length := by rw [hl]; exact Nat.mul_pos (by omega) hz
    obtain ⟨h1, _⟩ := hr w s 0 (cs[0]) (List.getElem?_eq_getElem hlt)
    obtain ⟨b, rfl⟩ := Option.isSome_iff_exists.1 h1
    simp only [Option.map_eq_some_iff] at hs
    obtain ⟨i, hinf, rfl⟩ := hs
    simp [execOp, ho, r.ev hx, r.ev hy, Instr.indexAt, asIntOf, run_underlying ht, sizeOf, typeInfo, hinf, hi, at0]
theorem old_blk {w0 w : World} {H : List Item} {b : Nat} {x : Obj} (s : HS w0 [] H w) (h : w0.heap[b]? = some x) : w.heap[b]? = some x := by
  rw [s.fr.block b (Array.getElem?_eq_some_iff.1 h).1 (by simp)]; exact h
theorem HS.new {w0 w : World} {H : List Item} (s : HS w0 [] H w) {b : Nat} (hb : b ∈ feet H) : w0.heap.size ≤ b := (s.own b hb).resolve_left (by simp)
theorem reads_oldblk {w0 : World} {H : List Item} {b off : Nat} {cs vs : List Value} {t : TypeId} (h : w0.heap[b]? = some (.cells cs.toArray t (0, 0))) (hv : (cs.drop off).take vs.length = vs) : Reads w0 [] H ⟨b, off, none⟩ vs := by
  refine reads_old (fun j u hu => ?_) (by simp)
  rw [add_lit', cell_of_row w0 b (off + j) cs.toArray t (0, 0) h]
  rw [← hv, List.getElem?_take] at hu
  split at hu
  · rw [List.getElem?_drop] at hu; simpa using hu
  · cases hu
theorem qt_index0 {x y : Operand} {t el : TypeId} {b len cap sz : Nat} {k : IntKind} {m : Nat} (ho : o.op = .indexAddr t x y) (hx : ev env x = some (.slice (some ⟨b, 0, none⟩) len cap)) (hy : ev env y = some (.int k (m : Int)))
    (ht : P.underlying t = some (.slice el)) (hs : (P.info? el).map (·.size) = some sz) (hi : m < len) : Qt P n env w0 S H o (.pointer (some ⟨b, m * sz, none⟩)) := by
  have h := qt_indexAddr (P := P) (n := n) (w0 := w0) (S := S) (H := H) ho hx hy ht hs ⟨by omega, by omega⟩
  simpa using h
theorem qt_fieldOf {x : Operand} {t : TypeId} {f : Nat} {fs : Array Field} {fd : Field} {p : Addr} {m k : Nat} (ho : o.op = .fieldAddr t x f) (hx : ev env x = some (.pointer (some (p.add m)))) (ht : P.underlying t = some (.struct fs)) (hf : fs[f]? = some fd)
    (hs : (P.info? fd.type).map (·.size) = some (k + 1)) : Qt P n env w0 S H o (.pointer (some (p.add (m + fd.offset)))) :=
  qt_same fun a w r s => by
    simp only [Option.map_eq_some_iff] at hs
    obtain ⟨i, hinf, hk⟩ := hs
    simp [execOp, ho, r.ev hx, Instr.fieldAt, run_underlying ht, hf, Instr.sureAddr, fieldPlace, sizeOf, typeInfo, hinf, hk, add_add']
theorem qt_lenSl {x : Operand} {t : TypeId} {ts : Array TypeId} {A : Option Addr} {len cap : Nat} (ho : o.op = .call { callee := .builtin .len, args := #[x], argTypes := ts }) (hx : ev env x = some (.slice A len cap)) (hok : okOps env o = true)
    (hv : ∀ w, (execOp (evD env) o).run P w = .ok (.value (.int .i64 (len : Int))) w) : Qt P n env w0 S H o (.int .i64 (len : Int)) := qt_pure hok hv
/-- a slice's cut from k on: what it reads -/
theorem qt_from {x y : Operand} {t el : TypeId} {A : Option Addr} {len cap sz : Nat} {kd : IntKind} {k : Nat} (ho : o.op = .slice t x (some y) none none) (hx : ev env x = some (.slice A len cap)) (hy : ev env y = some (.int kd (k : Int)))
    (ht : P.underlying t = some (.slice el)) (hs : (P.info? el).map (·.size) = some sz) (hk : k ≤ len) :
    Qt P n env w0 S H o (.slice (if cap = k then A else A.map (·.add (k * sz))) (len - k) (cap - k)) :=
  qt_same fun a w r s => by
    simp only [Option.map_eq_some_iff] at hs
    obtain ⟨i, hinf, rfl⟩ := hs
    simp [execOp, ho, r.ev hx, r.ev hy, Instr.sliceAt, Instr.slice, run_underlying ht, Instr.sliceBounds, Instr.sliceBound, asIntOf, hk, sizeOf, typeInfo, hinf]
theorem qt_upto {x y : Operand} {t el : TypeId} {A : Option Addr} {len cap sz : Nat} {kd : IntKind} {k : Nat} (ho : o.op = .slice t x none (some y) none) (hx : ev env x = some (.slice A len cap)) (hy : ev env y = some (.int kd (k : Int)))
    (ht : P.underlying t = some (.slice el)) (hs : (P.info? el).map (·.size) = some sz) (hk : k ≤ cap) :
    Qt P n env w0 S H o (.slice (if cap = 0 then A else A.map (·.add 0)) k cap) :=
  qt_same fun a w r s => by
    simp only [Option.map_eq_some_iff] at hs
    obtain ⟨i, hinf, rfl⟩ := hs
    simp [execOp, ho, r.ev hx, r.ev hy, Instr.sliceAt, Instr.slice, run_underlying ht, Instr.sliceBounds, Instr.sliceBound, asIntOf, hk, sizeOf, typeInfo, hinf]
theorem slHolds_cut {A : Option Addr} {len c k : Nat} {t : TypeId} {sz : Nat} {cs : List Value} {w : World} (h : (sl A len c t sz cs).holds w) (hk : k ≤ len) (hsz : 0 < sz) :
    (sl (if c = k then A else A.map (·.add (k * sz))) (len - k) (c - k) t sz (cs.drop (k * sz))).holds w := by
  obtain ⟨h1, h2, h3, h4⟩ := h
  refine ⟨by rw [List.length_drop, h1, Nat.sub_mul], by omega, by omega, ?_⟩
  rcases h4 with ⟨rfl, rfl⟩ | ⟨g, off, cur, rfl, hg, hs, htake⟩
  · left; exact ⟨by split <;> rfl, by omega⟩
  · right
    by_cases hc : c = k
    · rw [if_pos hc]
      refine ⟨g, off, cur, rfl, hg, by rw [hc, Nat.sub_self]; omega, ?_⟩
      have : len = k := by omega
      subst this
      rw [Nat.sub_self, Nat.zero_mul, List.take_zero, List.drop_eq_nil_of_le (by omega)]
    · rw [if_neg hc]
      refine ⟨g, off + k * sz, cur, by simp [add_lit'], hg, ?_, ?_⟩
      · have : (c - k) * sz + k * sz = c * sz := by rw [← Nat.add_mul]; congr 1; omega
        omega
      · rw [← htake, List.drop_take, List.drop_drop, Nat.sub_mul]
theorem slFoot_cut (A : Option Addr) (c k m : Nat) : slFoot (if c = k then A else A.map (·.add m)) = slFoot A := by
  split
  · rfl
  · cases A with
    | none => rfl
    | some a =>
      simp only [Option.map_some, slFoot]
      have : (a.add m).block = a.block := by unfold Addr.add; split <;> rfl
      rw [this]
/-- an owned slice turned into its cut from k on -/
theorem A.cutFrom {G : Act → World → Prop} (i k : Nat) {A : Option Addr} {len c : Nat} {t : TypeId} {sz : Nat} {cs : List Value} (H' : List Item) (hi : H[i]? = some (sl A len c t sz cs)) (hk : k ≤ len) (hsz : 0 < sz)
    (hH : H.set i (sl (if c = k then A else A.map (·.add (k * sz))) (len - k) (c - k) t sz (cs.drop (k * sz))) = H') (h : V.A n env w0 S H' G) : V.A n env w0 S H G := by
  intro a w r s
  refine h a w r ?_
  rw [← hH]
  refine s.turn hi (Fr.refl _ _) (slHolds_cut (s.mem hi) hk hsz) (slFoot_nodup _) (fun b hb => .inl ?_)
  rw [show (sl (if c = k then A else A.map (·.add (k * sz))) (len - k) (c - k) t sz (cs.drop (k * sz))).foot = slFoot (if c = k then A else A.map (·.add (k * sz))) from rfl, slFoot_cut] at hb
  exact hb
/-- a nil slice, owned -/
theorem A.ownNil {G : Act → World → Prop} (t : TypeId) (sz : Nat) (H' : List Item) (hH : H ++ [sl none 0 0 t sz []] = H') (h : V.A n env w0 S H' G) : V.A n env w0 S H G := fun a w r s =>
  h a w r (by rw [← hH]; exact s.add (Fr.refl _ _) (sl_nil t sz w) (by simp [sl, slFoot]) (by simp [sl, slFoot]))
/-- a whole block as an owned slice -/
theorem A.ownBlk {G : Act → World → Prop} (i : Nat) {b : Nat} {t : TypeId} {cs : List Value} (len sz : Nat) (H' : List Item) (hi : H[i]? = some (blk b cs t)) (hl : cs.length = len * sz) (hm : len ≤ maxLen) (hH : H.set i (sl (some ⟨b, 0, none⟩) len len t sz cs) = H')
    (h : V.A n env w0 S H' G) : V.A n env w0 S H G := by
  intro a w r s
  refine h a w r ?_
  rw [← hH]
  have hh : w.heap[b]? = some (.cells cs.toArray t (0, 0)) := s.mem hi
  refine s.turn hi (Fr.refl _ _) ⟨hl, Nat.le_refl _, hm, .inr ⟨b, 0, _, rfl, hh, by simp [hl], by simp [← hl]⟩⟩ (slFoot_nodup (some ⟨b, 0, none⟩)) (fun x hx => .inl ?_)
  simpa [sl, slFoot, blk] using hx

/-! append -/
theorem cells_drop_take {cur : List Value} {off a : Nat} {cs : List Value} (h : (cur.drop off).take a = cs) (hl : off + a ≤ cur.length) : cs.length = a := by rw [← h]; simp; omega
theorem run_append_sl {t ty e : TypeId} {i : TypeInfo} {z : Value} {sz by_ : Nat} (w : World) (ht : P.underlying t = some (.slice e)) (hi : P.info? e = some i) (hz : i.zero = some z) (hsize : i.size = sz) (hby : i.bytes = by_) (hzs : z.cells.size = sz) (hsz : 0 < sz)
    {A : Option Addr} {len c : Nat} {cs : List Value} (h : (sl A len c e sz cs).holds w) {X : Option Addr} {m cx : Nat} {news : List Value} (hx : arrAt w X news) (hxl : news.length = m * sz) (h1 : news.all Value.oneCell' = true)
    (h63 : len + m ≤ maxLen) (hbytes : (len + m) * by_ ≤ 140737488355328) :
    ∃ A' c' w', (Builtin.append_ #[t, t] ty #[.slice A len c, .slice X m cx]).run P w = .ok (.slice A' (len + m) c') w' ∧ (sl A' (len + m) c' e sz (cs ++ news)).holds w' ∧ Fr (slFoot A) w w' ∧ (∀ b ∈ slFoot A', b ∈ slFoot A ∨ w.heap.size ≤ b) := by
  subst hsize; subst hby
  obtain ⟨hl, hnc, hcm, h4⟩ := h
  have h1' : ∀ u ∈ news, u.oneCell' = true := fun u hu => List.all_eq_true.1 h1 u hu
  have hfx : (Builtin.firstCells i.size m (.slice X m cx)).run P w = .ok news.toArray w := by
    cases X with
    | none =>
      have : news = [] := by
        cases news with
        | nil => rfl
        | cons u us => have := (hx 0 u rfl).1; simp at this
      subst this
      simp [Builtin.firstCells]
    | some x => exact run_firstCells_some (P := P) w i.size m x m cx news hxl (fun j u hu => by simpa [at0] using (hx j u hu).2)
  have hfx' : (Builtin.firstCells i.size m (.slice X m cx)).run P w.drew = .ok news.toArray w.drew := by
    cases X with
    | none =>
      have : news = [] := by
        cases news with
        | nil => rfl
        | cons u us => have := (hx 0 u rfl).1; simp at this
      subst this
      simp [Builtin.firstCells]
    | some x => exact run_firstCells_some (P := P) w.drew i.size m x m cx news hxl (fun j u hu => by simpa [at0] using (hx j u hu).2)
  by_cases hroom : len + m ≤ c
  · rcases h4 with ⟨rfl, rfl⟩ | ⟨g, off, cur, rfl, hg, hs, htake⟩
    · have hm : m = 0 := by omega
      have hlen : len = 0 := by omega
      subst hm; subst hlen
      have hn : news = [] := List.eq_nil_of_length_eq_zero (by simpa using hxl)
      subst hn
      simp at hl; subst hl
      refine ⟨none, 0, w, ?_, ⟨by simp, Nat.le_refl _, hcm, .inl ⟨rfl, rfl⟩⟩, Fr.refl _ _, by simp [slFoot]⟩
      simp [Builtin.append_, run_underlying ht, sizeOf, typeInfo, hi, Builtin.lenOf, hfx]
    · have hcap : (len + m) * i.size ≤ c * i.size := Nat.mul_le_mul_right _ hroom
      have hadd : (len + m) * i.size = len * i.size + m * i.size := Nat.add_mul _ _ _
      have hst := run_storeCells_at P g (off + len * i.size) e news 0 cur w hg (by rw [hxl]; simp only [Nat.add_zero]; omega) h1'
      simp only [Nat.add_zero] at hst
      refine ⟨some ⟨g, off, none⟩, c, w.setRow g (cur.toList.take (off + len * i.size) ++ news ++ cur.toList.drop (off + len * i.size + news.length)).toArray, ?_, ⟨by rw [List.length_append, hl, hxl, hadd], hroom, hcm, .inr ⟨g, off, _, rfl, setRow_at w g _ cur e hg, ?_, ?_⟩⟩, fr_setRow w g _, fun _ hb => .inl hb⟩
      · simp only [Builtin.append_]
        simp [run_underlying ht, sizeOf, typeInfo, hi, Builtin.lenOf, hroom, hfx, add_lit', hst]
      · simp only [List.size_toArray, List.length_append, List.length_take, List.length_drop, Array.length_toList, hxl]; omega
      · simp only [List.toList_toArray] 
        rw [List.append_assoc, List.drop_append, List.length_take, Array.length_toList]
        rw [show off - min (off + len * i.size) cur.size = 0 from by omega, List.drop_zero]
        rw [List.drop_take, show off + len * i.size - off = len * i.size from by omega, htake]
        rw [← List.append_assoc, List.take_append_of_le_length (by rw [List.length_append, hl, hxl, hadd]; omega)]
        rw [List.take_of_length_le (by rw [List.length_append, hl, hxl, hadd]; omega)]
  · have hge := grownCap_ge w (len + m) c e
    have hcm' : grownCap w (len + m) c e ≤ maxLen := grownCap_le_maxLen w (len + m) c e h63
    have hfs : (Builtin.firstCells i.size len (.slice A len c)).run P w.drew = .ok cs.toArray w.drew := by
      rcases h4 with ⟨rfl, rfl⟩ | ⟨g, off, cur, rfl, hg, hs, htake⟩
      · have hlen : len = 0 := by omega
        subst hlen; simp at hl; subst hl; simp [Builtin.firstCells]
      · exact run_firstCells_some (P := P) w.drew i.size len ⟨g, off, none⟩ len c cs hl (fun j u hu => by
          show w.cell? _ = _
          rw [add_lit', cell_of_row w g (off + j) cur e (0, 0) hg]
          rw [← htake, List.getElem?_take] at hu
          split at hu
          · rw [List.getElem?_drop] at hu; simpa using hu
          · cases hu)
    obtain ⟨w', hw'⟩ : ∃ w', w' = (World.drew w).alloc (.cells (cs.toArray ++ news.toArray ++ Builtin.zeroCells z.cells (grownCap w (len + m) c e - (len + m))) e) := ⟨_, rfl⟩
    refine ⟨some ⟨w.heap.size, 0, none⟩, grownCap w (len + m) c e, w', ?_, ⟨by rw [List.length_append, hl, hxl, Nat.add_mul], hge, hcm', .inr ⟨w.heap.size, 0, _, rfl, by rw [hw']; exact heap_alloc_new w.drew _, ?_, ?_⟩⟩, ?_, fun b hb => .inr (by simp [slFoot] at hb; omega)⟩
    · subst hw'
      have h48 : ¬ (Builtin.nextslicecap (len + m) c * i.bytes > 2 ^ 48) := by
        have h2 := growslice_fits (need := len + m) (old := c) (by omega) hbytes
        omega
      have hmax : IntKind.i64.max = 9223372036854775807 := by decide
      have hm63 : len + m ≤ 9223372036854775807 := by simp only [maxLen] at h63; omega
      simp only [Builtin.append_]
      simp [run_underlying ht, sizeOf, typeInfo, zeroValue, hi, hz, Builtin.lenOf, hroom, h48, Question.forced, hfs, hfx, newRow, grownCap]
      rw [if_neg (by omega)]
      simp only [Result.andThen_ok, hfx']
      refine congrArg _ (congrArg _ (congrArg (fun c => Obj.cells c e (0, 0)) ?_))
      apply Array.ext'
      simp
    · simp only [Array.size_append, List.size_toArray, size_zeroCells, hzs, hl, hxl]
      rw [← Nat.add_mul, ← Nat.add_mul, Nat.zero_add]
      apply Nat.le_of_eq; congr 1; omega
    · simp only [Array.toList_append, List.drop_zero]
      rw [List.take_append_of_le_length (by simp [hl, hxl, Nat.add_mul]), List.take_of_length_le (by simp [hl, hxl, Nat.add_mul])]
    · subst hw'
      exact ⟨rfl, rfl, rfl, by simp, fun k hk _ => heap_alloc_old w.drew _ hk⟩
end

section
variable {P : Program} {n : Nat} {env : Env} {w0 : World} {S : List Nat} {H : List Item} {ops : Array Oper} {o : Oper} {K : Act → World → Prop}
/-- append onto an owned slice -/
theorem A.append (i : Nat) (d : Nat) {x y : Operand} {t e : TypeId} {z : Value} {sz by_ : Nat} {A : Option Addr} {len c : Nat} {cs : List Value} {X : Option Addr} {m cx : Nat} (news : List Value)
    (hok : headOk ops n env o (some d) = true) (ho : o.op = .call { callee := .builtin .append, args := #[x, y], argTypes := #[t, t] }) (hx : ev env x = some (.slice A len c)) (hy : ev env y = some (.slice X m cx))
    (ht : P.underlying t = some (.slice e)) (hinf : (P.info? e).map (fun i => (i.zero, i.size, i.bytes)) = some (some z, sz, by_)) (hzs : z.cells.size = sz) (hsz : 0 < sz)
    (hi : H[i]? = some (sl A len c e sz cs)) (hr : Rd w0 S H X news) (hnl : news.length = m * sz) (h1 : news.all Value.oneCell' = true) (h63 : len + m ≤ maxLen) (hbytes : (len + m) * by_ ≤ 140737488355328)
    (H' : Option Addr → Nat → List Item) (hH : ∀ A' c', H.set i (sl A' (len + m) c' e sz (cs ++ news)) = H' A' c')
    (h : ∀ A' c', V.A n ((d, .slice A' (len + m) c') :: env) w0 S (H' A' c') K) : V.A n env w0 S H (Step P ops o K) := by
  intro a w r s
  obtain ⟨h1', h2, h3, h4⟩ := headOk_spec hok
  unfold Step
  rw [if_pos (wanted_of r h1')]
  simp only [Option.map_eq_some_iff, Prod.mk.injEq] at hinf
  obtain ⟨inf, hinf, hz, hs1, hs2⟩ := hinf
  obtain ⟨A', c', w', hrun, hsl, hfr, hft⟩ := run_append_sl (P := P) (ty := o.type) w ht hinf hz hs1 hs2 hzs hsz (s.mem hi) (m := m) (cx := cx) (hr w s) hnl h1 h63 hbytes
  unfold Oper.wp execOp
  simp only [ho, resolve, invoke, builtin, Sem.run_bind, Sem.run_pure, Result.andThen_ok, List.map_toArray, List.map_cons, List.map_nil, r.ev hx, r.ev hy, hrun, Oper.upon, h2]
  refine h A' c' _ _ (r.put (h3 d rfl)) ?_
  rw [← hH]
  exact s.turn hi hfr hsl (slFoot_nodup _) hft
/-- a slice literal: a new block -/
theorem A.buildSlice (d : Nat) {t e : TypeId} {len : Nat} {parts : Array (Nat × Operand)} (cs : List Value) (hok : headOk ops n env o (some d) = true) (ho : o.op = .buildSlice t len parts)
    (hrun : ∀ w : World, (execOp (evD env) o).run P w = .ok (.value (.slice (some ⟨w.heap.size, 0, none⟩) len len)) { w with heap := w.heap.push (.cells cs.toArray e (0, 0)) })
    (H' : Nat → List Item) (hH : ∀ b, H ++ [blk b cs e] = H' b) (h : ∀ b, V.A n ((d, .slice (some ⟨b, 0, none⟩) len len) :: env) w0 S (H' b) K) : V.A n env w0 S H (Step P ops o K) := by
  intro a w r s
  obtain ⟨h1', h2, h3, h4⟩ := headOk_spec hok
  unfold Step
  rw [if_pos (wanted_of r h1')]
  unfold Oper.wp
  rw [execOp_env r h4, hrun w]
  simp only [Oper.upon, h2]
  refine h w.heap.size _ _ (r.put (h3 d rfl)) ?_
  rw [← hH]
  exact s.add (Fr.alloc _ _ _) (heap_alloc_new w _) (by simp [blk]) (by simp [blk])
theorem made_list (z : List Value) : ∀ len : Nat, (List.range (len * z.length)).map (fun j => z.getD (j % z.length) undef) = flat (fun _ => z) (List.replicate len ())
  | 0 => by simp [flat]
  | len + 1 => by
    have ih := made_list z len
    rw [Nat.add_mul, Nat.one_mul, List.range_add, List.map_append, ih, List.replicate_succ', flat_append]
    congr 1
    simp only [flat, List.flatMap_cons, List.flatMap_nil, List.append_nil, List.map_map]
    apply List.ext_getElem
    · simp
    · intro j h1 h2
      have hj : j < z.length := h2
      simp [Nat.mod_eq_of_lt hj, hj]
theorem made_cells (z : Array Value) (len : Nat) : madeCells z (len * z.size) = (flat (fun _ => z.toList) (List.replicate len ())).toArray := by
  have h := made_list z.toList len
  rw [Array.length_toList] at h
  rw [← h]
  apply Array.ext'
  simp only [madeCells, Array.toList_map, Array.toList_range, List.toList_toArray]
  apply List.map_congr_left
  intro j hj
  have hz : 0 < z.size := by
    rcases Nat.eq_zero_or_pos z.size with h0 | h0
    · rw [h0] at hj; simp at hj
    · exact h0
  have hlt := Nat.mod_lt j hz
  simp [hlt]
/-- make([]T, len): a new block -/
theorem A.make {α : Type} (enc : α → List Value) (d0 : α) (d : Nat) {t e : TypeId} {x y : Operand} {k k' : IntKind} {z : Value} {sz by_ : Nat} (len : Nat) (hok : headOk ops n env o (some d) = true) (ho : o.op = .makeSlice t x y) (hx : ev env x = some (.int k (len : Int))) (hy : ev env y = some (.int k' (len : Int)))
    (ht : P.underlying t = some (.slice e)) (hinf : (P.info? e).map (fun i => (i.zero, i.size, i.bytes)) = some (some z, sz, by_)) (hzs : z.cells.size = sz) (hd0 : enc d0 = z.cells.toList) (hb : by_ * len ≤ 281474976710656) (h63 : len ≤ 9223372036854775807)
    (H' : Nat → List Item) (hH : ∀ b, H ++ [blk b (flat enc (List.replicate len d0)) e] = H' b) (h : ∀ b, V.A n ((d, .slice (some ⟨b, 0, none⟩) len len) :: env) w0 S (H' b) K) : V.A n env w0 S H (Step P ops o K) := by
  intro a w r s
  obtain ⟨h1', h2, h3, h4⟩ := headOk_spec hok
  unfold Step
  rw [if_pos (wanted_of r h1')]
  simp only [Option.map_eq_some_iff, Prod.mk.injEq] at hinf
  obtain ⟨inf, hinf, hz, rfl, rfl⟩ := hinf
  have hb' : (inf.bytes : Int) * (len : Int) ≤ 281474976710656 := by rw [← Int.natCast_mul]; omega
  have hr := run_make (P := P) w t e inf z ht hinf hz k k' len len (by omega) (by omega) hb' (by omega)
  simp only [Int.toNat_natCast] at hr
  have hcells : madeCells z.cells (len * inf.size) = (flat enc (List.replicate len d0)).toArray := by
    rw [← hzs, made_cells]; congr 1; simp only [flat]; clear hx hy hb hb' hr hH h h63; induction len <;> simp_all [List.replicate_succ]
  unfold Oper.wp execOp
  simp only [ho, r.ev hx, r.ev hy, Sem.run_bind, hr, Result.andThen_ok, Sem.run_pure, Oper.upon, h2]
  refine h w.heap.size _ _ (r.put (h3 d rfl)) ?_
  rw [← hH, hcells]
  exact s.add (Fr.alloc _ _ _) (heap_alloc_new w _) (by simp [blk]) (by simp [blk])
/-- a store at a thing's field within a block of things -/
theorem A.storeAt {α : Type} (i k : Nat) {t ty : TypeId} {x y : Operand} {b sz : Nat} {u : Value} {enc : α → List Value} {xs : List α} (v : α) (H' : List Item) (hok : headOk ops n env o none = true) (ho : o.op = .store t x y)
    (hx : ev env x = some (.pointer (some ⟨b, k * sz, none⟩))) (hy : ev env y = some u) (hu : u.cells = (enc v).toArray) (hsz : (P.info? t).map (·.size) = some sz) (h1 : (enc v).all Value.oneCell' = true) (he : ∀ x, (enc x).length = sz)
    (hi : H[i]? = some (blk b (flat enc xs) ty)) (hk : k < xs.length) (hH : H.set i (blk b (flat enc (xs.set k v)) ty) = H') (h : V.A n env w0 S H' K) : V.A n env w0 S H (Step P ops o K) := by
  refine A.store i (vs := enc v) H' hok ho hx hy hu (by rw [hsz, he]) h1 hi ?_ ?_ h
  · rw [flat_len he, he]; exact Nat.ble_eq_true_of_le (by have := Nat.mul_le_mul_right sz (show k + 1 ≤ xs.length from hk); rw [Nat.add_mul] at this; omega)
  · rw [← hH, he, flat_set he xs k v hk]
theorem qt_indexN {α : Type} {enc : α → List Value} {xs : List α} {x y : Operand} {t el : TypeId} {A : Option Addr} {cap sz : Nat} {k : IntKind} {m : Nat} (ho : o.op = .indexAddr t x y) (hx : ev env x = some (.slice A xs.length cap)) (hy : ev env y = some (.int k (m : Int)))
    (ht : P.underlying t = some (.slice el)) (hs : (P.info? el).map (·.size) = some sz) (he : ∀ x, (enc x).length = sz) (hr : Rd w0 S H A (flat enc xs)) (hz : 0 < sz) (hi : m < xs.length) : Qt P n env w0 S H o (.pointer (some ((at0 A).add (m * sz)))) :=
  qt_index ho hx hy ht hs hr (flat_len he xs) hz ⟨by omega, by omega⟩
theorem reads_at {α : Type} {enc : α → List Value} {xs : List α} {A : Option Addr} {m sz f : Nat} {x : α} {vs : List Value} (he : ∀ x, (enc x).length = sz) (hr : Rd w0 S H A (flat enc xs)) (hx : xs[m]? = some x) (hf : f + vs.length ≤ sz) (hv : ((enc x).drop f).take vs.length = vs) :
    Reads w0 S H ((at0 A).add (m * sz + f)) vs := rd_reads hr (by rw [flat_at he hx f _ hf, hv])
theorem reads_at0 {α : Type} {enc : α → List Value} {xs : List α} {A : Option Addr} {m sz : Nat} {x : α} {vs : List Value} (he : ∀ x, (enc x).length = sz) (hr : Rd w0 S H A (flat enc xs)) (hx : xs[m]? = some x) (hf : vs.length ≤ sz) (hv : (enc x).take vs.length = vs) :
    Reads w0 S H ((at0 A).add (m * sz)) vs := reads_at (f := 0) he hr hx (by omega) (by simpa using hv)
/-- append, by lists -/
theorem A.appendC {α : Type} {enc : α → List Value} {xs : List α} (ys : List α) (i : Nat) (d : Nat) {x y : Operand} {t e : TypeId} {z : Value} {sz by_ : Nat} {A : Option Addr} {c : Nat} {X : Option Addr} {cx : Nat}
    (hok : headOk ops n env o (some d) = true) (ho : o.op = .call { callee := .builtin .append, args := #[x, y], argTypes := #[t, t] }) (hx : ev env x = some (.slice A xs.length c)) (hy : ev env y = some (.slice X ys.length cx))
    (ht : P.underlying t = some (.slice e)) (hinf : (P.info? e).map (fun i => (i.zero, i.size, i.bytes)) = some (some z, sz, by_)) (hzs : z.cells.size = sz) (hsz : 0 < sz)
    (he : ∀ x, (enc x).length = sz) (h1 : ∀ x, (enc x).all Value.oneCell' = true)
    (hi : H[i]? = some (sl A xs.length c e sz (flat enc xs))) (hr : Rd w0 S H X (flat enc ys)) (hbytes : xs.length + ys.length ≤ 1048576 ∧ by_ ≤ 134217728)
    (H' : Option Addr → Nat → List Item) (hH : ∀ A' c', H.set i (sl A' (xs ++ ys).length c' e sz (flat enc (xs ++ ys))) = H' A' c')
    (h : ∀ A' c', V.A n ((d, .slice A' (xs ++ ys).length c') :: env) w0 S (H' A' c') K) : V.A n env w0 S H (Step P ops o K) := by
  refine V.A.append i d (flat enc ys) hok ho hx hy ht hinf hzs hsz hi hr (flat_len he ys) ?_ (by simp only [maxLen]; omega) ?_ H' (fun A' c' => ?_) (fun A' c' => ?_)
  · apply List.all_eq_true.2
    intro u hu
    obtain ⟨y, _, hy⟩ := List.mem_flatMap.1 hu
    exact List.all_eq_true.1 (h1 y) u hy
  · exact Nat.le_trans (Nat.mul_le_mul hbytes.1 hbytes.2) (by omega)
  · rw [← hH, List.length_append, flat_append]
  · have := h A' c'; rw [List.length_append] at this; exact this
end
end Go.Proofs.Ytinnnoimmioaiaa.V
namespace Go.Proofs.Ytinnnoimmioaiaa.V
open Go
theorem ba_beq (a b : ByteArray) : (a == b) = (a.data == b.data) := by cases a; cases b; rfl
theorem lawful_ba : LawfulBEq ByteArray where
  rfl {a} := by rw [ba_beq]; simp
  eq_of_beq {a b} h := by rw [ba_beq] at h; exact ByteArray.ext (by simpa using h)
instance : LawfulBEq ByteArray := lawful_ba
theorem toList_beq (a b : ByteArray) : (a.toList == b.toList) = (a == b) := by
  rw [ba_beq, ByteArray.toList_eq, ByteArray.toList_eq, Bool.eq_iff_iff]; simp [Array.ext_iff]
section
variable {P : Program} {n : Nat} {env : Env} {w0 : World} {S : List Nat} {H : List V.Item} {o : Oper}
theorem qt_eqlS {t ty : TypeId} {x y : Operand} {b c : ByteArray} (ho : o.op = .binOp .eql t x y ty) (hx : ev env x = some (.string b)) (hy : ev env y = some (.string c)) : Qt P n env w0 S H o (.bool (b == c)) :=
  qt_same fun a w r _ => by simp [execOp, ho, r.ev hx, r.ev hy, eqGuard, binOp, Op.stringOp, toList_beq]
theorem qt_neqS {t ty : TypeId} {x y : Operand} {b c : ByteArray} (ho : o.op = .binOp .neq t x y ty) (hx : ev env x = some (.string b)) (hy : ev env y = some (.string c)) : Qt P n env w0 S H o (.bool (b != c)) :=
  qt_same fun a w r _ => by simp [execOp, ho, r.ev hx, r.ev hy, eqGuard, binOp, Op.stringOp, toList_beq, bne]
end
theorem arr_nil (w : World) (A : Option Addr) : arrAt w A [] := by intro j u hu; simp at hu
theorem arr_ints {k : IntKind} {w : World} {x : Addr} {zs : List Int} (len : Nat) (hcell : ∀ i, i < zs.length → w.cell? (x.add i) = some (.int k (zs.getD i 0))) :
    arrAt w (some x) (flat (fun z => [.int k z]) (zs.take len)) := by
  intro j u hu
  have he : flat (fun z => [Value.int k z]) (zs.take len) = (zs.take len).map (Value.int k) := by
    simp only [flat]; induction zs.take len <;> simp_all
  rw [he, List.getElem?_map] at hu
  obtain ⟨z, hz, rfl⟩ := Option.map_eq_some_iff.1 hu
  rw [List.getElem?_take] at hz
  split at hz
  · have hlt := (List.getElem?_eq_some_iff.1 hz).1
    refine ⟨rfl, ?_⟩
    simp only [at0, Option.getD_some]
    rw [hcell j hlt]
    simp [List.getD, hz]
  · cases hz
theorem arr_strs {w : World} {x : Addr} {ss : List ByteArray} (len : Nat) (hcell : ∀ i, i < ss.length → w.cell? (x.add i) = some (.string (ss.getD i ByteArray.empty))) :
    arrAt w (some x) (flat (fun z => [.string z]) (ss.take len)) := by
  intro j u hu
  have he : flat (fun z => [Value.string z]) (ss.take len) = (ss.take len).map Value.string := by
    simp only [flat]; induction ss.take len <;> simp_all
  rw [he, List.getElem?_map] at hu
  obtain ⟨z, hz, rfl⟩ := Option.map_eq_some_iff.1 hu
  rw [List.getElem?_take] at hz
  split at hz
  · have hlt := (List.getElem?_eq_some_iff.1 hz).1
    refine ⟨rfl, ?_⟩
    simp only [at0, Option.getD_some]
    rw [hcell j hlt]
    simp [List.getD, hz]
  · cases hz
end Go.Proofs.Ytinnnoimmioaiaa.V
namespace Go.Proofs.Ytinnnoimmioaiaa.V
open Go
section
variable {P : Program} {Q : Exit → Act → World → Prop} {n : Nat} {env : Env} {w0 : World} {S : List Nat} {H : List V.Item} {ops : Array Oper} {rest : List Oper} {o : Oper} {K : Act → World → Prop}
/-- back in the caller, with the value that was returned -/
def Back (n : Nat) (env : Env) (d : Option Nat) (K : Act → World → Prop) : Ending → World → Prop := fun e w' => ∃ v, e = .returned v ∧ ∀ a, Rep n env a → K (a.put d v) w'
/-- a call, walked in its caller's place -/
theorem A.inl (d : Option Nat) {f : FuncId} {fn : Func} {c : Code} {xs : Array Operand} {ats : Array TypeId} (args : List Value) (env' : Env)
    (hok : headOk ops n env o d = true) (ho : o.op = .call { callee := .value (.func f), args := xs, argTypes := ats }) (hf : callOk P f = true) (hx : xs.toList.map (ev env) = args.map some)
    (hfn : P.funcs[f]? = some fn) (hb : fn.body = some c) (hn : (Nat.ble args.length fn.ntmps) = true) (he : penv args = env')
    (h : A fn.ntmps env' w0 S H (c.wp P (bodyPost P fn (Back n env d K)))) : A n env w0 S H (Step P ops o K) := by
  intro a w r s
  obtain ⟨h1', h2, h3, h4⟩ := headOk_spec hok
  unfold Step
  rw [if_pos (wanted_of r h1')]
  unfold Oper.wp
  rw [run_call hf ho (by rfl), args_env r hx]
  simp only [Oper.upon, h2]
  subst he
  have hc : Calls P f args.toArray w (Back n env d K) := by
    refine calls_of_wp hfn hb (h _ _ ⟨?_, rfl, fun i v hv => ?_⟩ s)
    · have := Nat.le_of_ble_eq_true hn
      simp; omega
    · have hi := look_penv args i v hv
      have hlt : i < args.length := (List.getElem?_eq_some_iff.1 hi).1
      simp only [Array.getD_eq_getD_getElem?]
      rw [Array.getElem?_append_left (by simpa using hlt)]
      simp [hi]
  refine hc.mono fun e w' ⟨v, hv, hk⟩ => ?_
  subst hv
  exact hk a r
theorem A.back {d : Option Nat} {v : Value} (hd : (match d with | some x => Nat.blt x n | none => true) = true) (h : A n (putE env d v) w0 S H K) : ∀ w, HS w0 S H w → Back n env d K (.returned v) w :=
  fun w s => ⟨v, rfl, fun a r => h _ _ (r.putE (fun x hx => by subst hx; exact Nat.le_of_ble_eq_true hd)) s⟩
def fieldOffOk (P : Program) (t : TypeId) (f off : Nat) : Bool :=
  match P.underlying t with
  | some (.struct fs) => (match fs[f]? with
    | some fd => Nat.beq fd.offset off && (match P.info? fd.type with | some i => Nat.blt 0 i.size | none => false)
    | none => false)
  | _ => false
theorem qt_fieldOf2 {x : Operand} {t : TypeId} {f : Nat} {p : Addr} (m off : Nat) (ho : o.op = .fieldAddr t x f) (hx : ev env x = some (.pointer (some (p.add m)))) (h : fieldOffOk P t f off = true) : Qt P n env w0 S H o (.pointer (some (p.add (m + off)))) := by
  unfold fieldOffOk at h
  split at h
  · rename_i fs ht
    split at h
    · rename_i fd hf
      simp only [Bool.and_eq_true] at h
      obtain ⟨h1, h2⟩ := h
      split at h2
      · rename_i i hi
        obtain ⟨k, hk⟩ : ∃ k, i.size = k + 1 := ⟨i.size - 1, by have := Nat.le_of_ble_eq_true h2; omega⟩
        rw [← Nat.eq_of_beq_eq_true h1]
        exact qt_fieldOf ho hx ht hf (by rw [hi]; simp [hk]; rfl)
      · cases h2
    · cases h
  · cases h
/-- what was, still is -/
theorem old_item {it : V.Item} {w1 w : World} {H1 : List V.Item} (s : HS w1 [] H1 w) (h : it.holds w1) : it.holds w := it.loc w1 w (fun b hb => s.fr.block b (it.here w1 h b hb) (by simp)) h
/-- rounds of a loop, one by one -/
def Rounds (P : Program) (c : Code) (Q : Exit → Act → World → Prop) : Nat → Act → World → Prop
  | 0 => fun _ _ => False
  | m + 1 => c.wp P (Exit.then (Rounds P c Q m) Q)
theorem rounds_loop {c : Code} : ∀ (m : Nat) (a : Act) (w : World), Rounds P c Q m a w → (Code.loop c).wp P Q a w := by
  intro m a w h b k cs
  have key : ∀ m a w, Rounds P c Q m a w → ∃ e a' w', Q e a' w' ∧ Arrives P (lone (b.at a (.code c :: .inLoop c :: k)) cs w) b k cs e a' w' := by
    intro m
    induction m with
    | zero => intro a w h; exact h.elim
    | succ m ih =>
      intro a w h
      obtain ⟨e, a₁, w₁, hq, harr⟩ := h b (.inLoop c :: k) cs
      cases e with
      | normal =>
        obtain ⟨e₂, a₂, w₂, hq₂, harr₂⟩ := ih a₁ w₁ hq
        exact ⟨e₂, a₂, w₂, hq₂, .of_steps (Steps.trans harr (.one step_inLoop)) harr₂⟩
      | exit id => exact ⟨_, a₁, w₁, hq, .pass (x := .inLoop c) rfl (fun _ _ => .inl (by simp)) harr⟩
      | goto l => exact ⟨_, a₁, w₁, hq, .pass (x := .inLoop c) rfl (fun _ _ => .inl (by simp)) harr⟩
      | ret => exact ⟨_, a₁, w₁, hq, .pass (x := .inLoop c) rfl (fun _ _ => .inl (by simp)) harr⟩
      | panic ch => exact ⟨_, a₁, w₁, hq, .pass (x := .inLoop c) rfl (fun _ _ => .inl (by simp)) harr⟩
      | outgrown => exact ⟨_, a₁, w₁, hq, .pass (x := .inLoop c) rfl (fun _ _ => .inl (by simp)) harr⟩
  obtain ⟨e, a', w', hq, harr⟩ := key m a w h
  exact ⟨e, a', w', hq, .of_steps (.one step_loop) harr⟩
theorem A.unroll (m : Nat) {c : Code} (h : A n env w0 S H (Rounds P c Q m)) : A n env w0 S H ((Code.loop c).wp P Q) := fun a w r s => rounds_loop m a w (h a w r s)
theorem A.turnk {m : Nat} {c : Code} (h : A n env w0 S H (c.wp P (Exit.then (Rounds P c Q m) Q))) : A n env w0 S H (Rounds P c Q (m + 1)) := h
end
end Go.Proofs.Ytinnnoimmioaiaa.V
namespace Go.Proofs.Ytinnnoimmioaiaa.V
set_option linter.unusedVariables false
set_option linter.unusedSimpArgs false
open Go Go.ChangeShapes Go.WideShapes
inductive FK where
  | int (k : IntKind) | bool | str
  deriving DecidableEq
def Fits : FK → Value → Prop
  | .int k, v => ∃ n, v = .int k n ∧ k.min ≤ n ∧ n ≤ k.max
  | .bool, v => ∃ b, v = .bool b
  | .str, v => ∃ s : ByteArray, v = .string s ∧ s.size ≤ maxLen
theorem fit_i8 {v : Value} (h : Fits (.int .i8) v) : ∃ n, v = .int .i8 n ∧ (-128 : Int) ≤ n ∧ n ≤ 127 := by
  obtain ⟨n, rfl, h1, h2⟩ := h; exact ⟨n, rfl, by simpa [IntKind.min, IntKind.signed, IntKind.bits] using h1, by simpa [IntKind.max, IntKind.signed, IntKind.bits] using h2⟩
theorem fit_i16 {v : Value} (h : Fits (.int .i16) v) : ∃ n, v = .int .i16 n ∧ (-32768 : Int) ≤ n ∧ n ≤ 32767 := by
  obtain ⟨n, rfl, h1, h2⟩ := h; exact ⟨n, rfl, by simpa [IntKind.min, IntKind.signed, IntKind.bits] using h1, by simpa [IntKind.max, IntKind.signed, IntKind.bits] using h2⟩
theorem fit_i32 {v : Value} (h : Fits (.int .i32) v) : ∃ n, v = .int .i32 n ∧ (-2147483648 : Int) ≤ n ∧ n ≤ 2147483647 := by
  obtain ⟨n, rfl, h1, h2⟩ := h; exact ⟨n, rfl, by simpa [IntKind.min, IntKind.signed, IntKind.bits] using h1, by simpa [IntKind.max, IntKind.signed, IntKind.bits] using h2⟩
theorem fit_i64 {v : Value} (h : Fits (.int .i64) v) : ∃ n, v = .int .i64 n ∧ (-9223372036854775808 : Int) ≤ n ∧ n ≤ 9223372036854775807 := by
  obtain ⟨n, rfl, h1, h2⟩ := h; exact ⟨n, rfl, by simpa [IntKind.min, IntKind.signed, IntKind.bits] using h1, by simpa [IntKind.max, IntKind.signed, IntKind.bits] using h2⟩
theorem fit_u8 {v : Value} (h : Fits (.int .u8) v) : ∃ n, v = .int .u8 n ∧ (0 : Int) ≤ n ∧ n ≤ 255 := by
  obtain ⟨n, rfl, h1, h2⟩ := h; exact ⟨n, rfl, by simpa [IntKind.min, IntKind.signed, IntKind.bits] using h1, by simpa [IntKind.max, IntKind.signed, IntKind.bits] using h2⟩
theorem fit_u16 {v : Value} (h : Fits (.int .u16) v) : ∃ n, v = .int .u16 n ∧ (0 : Int) ≤ n ∧ n ≤ 65535 := by
  obtain ⟨n, rfl, h1, h2⟩ := h; exact ⟨n, rfl, by simpa [IntKind.min, IntKind.signed, IntKind.bits] using h1, by simpa [IntKind.max, IntKind.signed, IntKind.bits] using h2⟩
theorem fit_u32 {v : Value} (h : Fits (.int .u32) v) : ∃ n, v = .int .u32 n ∧ (0 : Int) ≤ n ∧ n ≤ 4294967295 := by
  obtain ⟨n, rfl, h1, h2⟩ := h; exact ⟨n, rfl, by simpa [IntKind.min, IntKind.signed, IntKind.bits] using h1, by simpa [IntKind.max, IntKind.signed, IntKind.bits] using h2⟩
theorem fit_u64 {v : Value} (h : Fits (.int .u64) v) : ∃ n, v = .int .u64 n ∧ (0 : Int) ≤ n ∧ n ≤ 18446744073709551615 := by
  obtain ⟨n, rfl, h1, h2⟩ := h; exact ⟨n, rfl, by simpa [IntKind.min, IntKind.signed, IntKind.bits] using h1, by simpa [IntKind.max, IntKind.signed, IntKind.bits] using h2⟩
theorem fit_bool {v : Value} (h : Fits .bool v) : ∃ b, v = .bool b := h
theorem fit_str {v : Value} (h : Fits .str v) : ∃ s : ByteArray, v = .string s ∧ s.size ≤ 9223372036854775807 := by
  obtain ⟨s, rfl, h⟩ := h; exact ⟨s, rfl, by simpa [maxLen, IntKind.max, IntKind.signed, IntKind.bits] using h⟩
def FitsL : List FK → List Value → Prop
  | [], [] => True
  | k :: ks, v :: vs => Fits k v ∧ FitsL ks vs
  | _, _ => False
theorem fitsL_cons {k : FK} {ks : List FK} {cs : List Value} (h : FitsL (k :: ks) cs) : ∃ v cs', cs = v :: cs' ∧ Fits k v ∧ FitsL ks cs' := by
  cases cs with
  | nil => exact h.elim
  | cons v cs => exact ⟨v, cs, rfl, h.1, h.2⟩
theorem fitsL_nil {cs : List Value} (h : FitsL [] cs) : cs = [] := by cases cs with | nil => rfl | cons v cs => exact h.elim
def sizeOkB (P : Program) (t : TypeId) (n : Nat) : Bool := Nat.beq (P.cellsOf t) n
/-- the kinds of a type's cells, if it is flat and lies without gaps -/
def flatK (P : Program) : Nat → TypeId → Option (List FK)
  | 0, _ => none
  | d + 1, t =>
    match P.underlying t with
    | some .bool => some [.bool]
    | some (.int k) => some [.int k]
    | some .string => some [.str]
    | some (.struct fs) => (fs.toList.foldr (fun f r => r.bind fun (acc : List FK) => (flatK P d f.type).bind fun ks => if ks.length = P.cellsOf f.type ∧ f.offset + ks.length + acc.length = P.cellsOf t then some (ks ++ acc) else none) (some [])).bind fun ks => if ks.length = P.cellsOf t then some ks else none
    | some (.array n e) => (flatK P d e).bind fun ks => if ks.length = P.cellsOf e ∧ n * ks.length = P.cellsOf t then some (List.replicate n ks).flatten else none
    | _ => none
section
variable {H : Type} {enc : TypeId × Value → H} {P : Program} {w : World} {base : Nat} {spare : Nat → Bool} {held : Bool}
theorem fitsL_append : ∀ {a c : List FK} {b d : List Value}, FitsL a b → FitsL c d → FitsL (a ++ c) (b ++ d)
  | [], _, [], _, _, k => k
  | _ :: _, _, _ :: _, _, h, k => ⟨h.1, fitsL_append h.2 k⟩
  | [], _, _ :: _, _, h, _ => h.elim
  | _ :: _, _, [], _, h, _ => h.elim
theorem trod_flat : ∀ (d fuel : Nat) (t : TypeId) (ks : List FK) (cs : List Value) (x : DataW H × List MemPlace), flatK P d t = some ks → DataW.trod enc P w base spare held fuel t cs = some x → FitsL ks cs := by
  intro d
  induction d with
  | zero => intro fuel t ks cs x h; simp [flatK] at h
  | succ d ih =>
    intro fuel t ks cs x h hx
    simp only [flatK] at h
    split at h
    case h_1 ht => cases h; obtain ⟨b, rfl, -⟩ := DataW.trod_bool ht hx; exact ⟨⟨b, rfl⟩, trivial⟩
    case h_2 k ht =>
      cases h; obtain ⟨n, rfl, -, hw⟩ := DataW.trod_int ht hx
      simp [Lit.wf] at hw
      exact ⟨⟨n, rfl, hw.1, hw.2⟩, trivial⟩
    case h_3 ht => cases h; obtain ⟨s, rfl, -, hs⟩ := DataW.trod_string ht hx; exact ⟨⟨s, rfl, hs⟩, trivial⟩
    case h_4 fs ht =>
      obtain ⟨xs, n, rfl, rfl, hl, hlen, hf⟩ := DataW.trod_struct ht hx
      simp only [Option.bind_eq_some_iff] at h
      obtain ⟨ks', h1, h2⟩ := h
      split at h2 <;> cases h2
      rename_i hkl
      have key : ∀ (l : List Field) (acc : List FK), (∀ f ∈ l, ∃ y, DataW.trod enc P w base spare held n f.type ((cs.drop f.offset).take (P.cellsOf f.type)) = some y) →
          (l.foldr (fun f r => r.bind fun (acc : List FK) => (flatK P d f.type).bind fun ks => if ks.length = P.cellsOf f.type ∧ f.offset + ks.length + acc.length = P.cellsOf t then some (ks ++ acc) else none) (some [])) = some acc →
          FitsL acc (cs.drop (P.cellsOf t - acc.length)) ∧ acc.length ≤ P.cellsOf t := by
        intro l
        induction l with
        | nil => intro acc _ hacc; simp at hacc; subst hacc; simp [← hl]; trivial
        | cons f l ihl =>
          intro acc hfs hacc
          simp only [List.foldr_cons, Option.bind_eq_some_iff] at hacc
          obtain ⟨acc', ha, kf, hk, hacc⟩ := hacc
          split at hacc <;> cases hacc
          rename_i hc
          obtain ⟨h3, h4⟩ := ihl acc' (fun f' hf' => hfs f' (List.mem_cons_of_mem _ hf')) ha
          obtain ⟨y, hy⟩ := hfs f (by simp)
          have h5 := ih _ _ _ _ _ hk hy
          refine ⟨?_, by simp; omega⟩
          have h6 : cs.drop (P.cellsOf t - (kf ++ acc').length) = (cs.drop f.offset).take (P.cellsOf f.type) ++ cs.drop (P.cellsOf t - acc'.length) := by
            have e1 : P.cellsOf t - (kf ++ acc').length = f.offset := by simp; omega
            have e2 : P.cellsOf t - acc'.length = f.offset + P.cellsOf f.type := by omega
            rw [e1, e2, ← List.drop_drop, List.take_append_drop]
          rw [h6]
          exact fitsL_append h5 h3
      have := (key fs.toList ks (fun f hf' => by
        obtain ⟨i, hi⟩ := List.getElem?_of_mem hf'
        have h7 := hf i f (by simpa using hi)
        have hlt : i < xs.length := by have := (List.getElem?_eq_some_iff.1 hi).1; simp at this; omega
        exact ⟨xs[i], by rw [h7, List.getElem?_eq_getElem hlt]⟩) h1).1
      simpa [hkl] using this
    case h_5 m e ht =>
      obtain ⟨xs, n, rfl, rfl, hl, hlen, hf⟩ := DataW.trod_array ht hx
      simp only [Option.bind_eq_some_iff] at h
      obtain ⟨ke, h1, h2⟩ := h
      split at h2 <;> cases h2
      rename_i hc
      have key : ∀ j, j ≤ m → FitsL (List.replicate j ke).flatten (cs.drop ((m - j) * P.cellsOf e)) := by
        intro j
        induction j with
        | zero =>
          intro _
          have : cs.drop ((m - 0) * P.cellsOf e) = [] := by
            apply List.drop_eq_nil_of_le
            rw [hl, ← hc.2, ← hc.1]; simp
          rw [this]; trivial
        | succ j ihj =>
          intro hj
          have hy := hf (m - (j + 1)) (by omega)
          have hlt : m - (j + 1) < xs.length := by omega
          rw [List.getElem?_eq_getElem hlt] at hy
          have h5 := ih _ _ _ _ _ h1 hy
          have h6 : cs.drop ((m - (j + 1)) * P.cellsOf e) = (cs.drop ((m - (j + 1)) * P.cellsOf e)).take (P.cellsOf e) ++ cs.drop ((m - j) * P.cellsOf e) := by
            have e2 : (m - j) * P.cellsOf e = (m - (j + 1)) * P.cellsOf e + P.cellsOf e := by
              rw [show m - j = (m - (j + 1)) + 1 by omega, Nat.add_mul, Nat.one_mul]
            rw [e2, ← List.drop_drop, List.take_append_drop]
          rw [h6, List.replicate_succ, List.flatten_cons]
          exact fitsL_append h5 (ihj (by omega))
      simpa using key m (Nat.le_refl m)
    case h_6 => cases h
/-- an argument of a flat type -/
theorem open_flat {α : Type} {ea : α → List Value} {ok : α → Prop} {d : Nat} {t : TypeId} {v : Value} {dd : DataW H} {ps : List MemPlace} {ks : List FK} (hk : flatK P d t = some ks) (ho : ∀ cs, FitsL ks cs → ∃ x, cs = ea x ∧ ok x)
    (h : DataW.Trod enc P w base spare held t v dd ps) : ∃ x, v.cells.toList = ea x ∧ ok x := by
  obtain ⟨fu, hf⟩ := h
  exact ho _ (trod_flat d fu t ks _ _ hk hf)
/-- a slice whose elements are of a flat type -/
theorem open_flats {α : Type} {ea : α → List Value} {ok : α → Prop} {d sz : Nat} {t e : TypeId} {ks : List FK} {v : Value} {dd : DataW H} {ps : List MemPlace} (ht : P.underlying t = some (.slice e)) (hk : flatK P d e = some ks) (hs : sizeOkB P e sz = true) (hlen : ∀ x, (ea x).length = sz)
    (hp : 0 < sz) (ho : ∀ cs, FitsL ks cs → ∃ x, cs = ea x ∧ ok x) {A0 : Option Addr} {len cap : Nat} (hv : v = .slice A0 len cap)
    (h : DataW.Trod enc P w base spare held t v dd ps) : ∃ xs : List α, xs.length = len ∧ arrAt w A0 (flat ea xs) ∧ ∀ x ∈ xs, ok x := by
  subst hv
  obtain ⟨fu, hf⟩ := h
  have hsz := Nat.eq_of_beq_eq_true hs
  rcases Go.Deep.open_slice ht hf with ⟨h0, -⟩ | ⟨a, len', cap', m, n, D, Pl, h0, hb, h1, h2, h3, -, hx⟩
  · simp [Value.cells] at h0
    obtain ⟨rfl, rfl, rfl⟩ := h0
    exact ⟨[], rfl, by intro j u hu; simp [flat] at hu, by simp⟩
  · simp [Value.cells] at h0
    obtain ⟨rfl, rfl, rfl⟩ := h0
    have hlm : len ≤ m := by rw [h3]; split <;> omega
    have key : ∀ j, j ≤ len → ∃ xs : List α, xs.length = j ∧ arrAt w (some a) (flat ea xs) ∧ ∀ x ∈ xs, ok x := by
      intro j
      induction j with
      | zero => intro _; exact ⟨[], rfl, by intro j u hu; simp [flat] at hu, by simp⟩
      | succ j ih =>
        intro hj
        obtain ⟨xs, hxl, hxa, hxo⟩ := ih (by omega)
        obtain ⟨cs', hc, htr⟩ := hx j (by omega)
        obtain ⟨y, rfl, hy⟩ := ho _ (trod_flat d n e ks _ _ hk htr)
        refine ⟨xs ++ [y], by simp [hxl], ?_, by intro z hz; simp at hz; rcases hz with hz | rfl; exact hxo z hz; exact hy⟩
        intro i u hu
        rw [flat_append] at hu
        by_cases hi : i < (flat ea xs).length
        · rw [List.getElem?_append_left hi] at hu; exact hxa i u hu
        · rw [List.getElem?_append_right (by omega)] at hu
          have hfl := flat_len hlen xs
          rw [hxl] at hfl
          rw [show flat ea [y] = ea y by simp [flat]] at hu
          obtain ⟨-, -, hcell⟩ := World.cells?_some hc
          have hlt : i - (flat ea xs).length < sz := by
            have := (List.getElem?_eq_some_iff.1 hu).1; rw [hlen y] at this; exact this
          have h8 := hcell (i - (flat ea xs).length) (by rw [hsz]; exact hlt)
          refine ⟨rfl, ?_⟩
          simp only [at0, Option.getD_some]
          rw [Addr.add_add, hsz] at h8
          rw [show j * sz + (i - (flat ea xs).length) = i by omega] at h8
          rw [h8, hu]
    exact key len (Nat.le_refl _)
end
end Go.Proofs.Ytinnnoimmioaiaa.V
namespace Go.Proofs.Ytinnnoimmioaiaa.V
open Go

/-- a computation that asks the program alone -/
def pureRun (P : Program) {α : Type} : Sem α → Option α
  | .pure a => some a
  | .program k => pureRun P (k P)
  | .mark _ k => pureRun P k
  | _ => none
theorem pureRun_run {P : Program} {α : Type} : ∀ (s : Sem α) (a : α), pureRun P s = some a → ∀ w, s.run P w = .ok a w
  | .pure b, a, h, w => by simp [pureRun] at h; subst h; rfl
  | .program k, a, h, w => by simp only [pureRun] at h; exact pureRun_run (k P) a h w
  | .mark m k, a, h, w => by simp only [pureRun] at h; exact pureRun_run k a h w
  | .load .., a, h, w => by simp [pureRun] at h
  | .store .., a, h, w => by simp [pureRun] at h
  | .new .., a, h, w => by simp [pureRun] at h
  | .shape .., a, h, w => by simp [pureRun] at h
  | .freeze .., a, h, w => by simp [pureRun] at h
  | .frozen .., a, h, w => by simp [pureRun] at h
  | .getObj .., a, h, w => by simp [pureRun] at h
  | .setObj .., a, h, w => by simp [pureRun] at h
  | .choose .., a, h, w => by simp [pureRun] at h
  | .sys .., a, h, w => by simp [pureRun] at h
  | .halt .., a, h, w => by simp [pureRun] at h
def pureV (P : Program) (env : Env) (o : Oper) : Option Value :=
  match pureRun P (execOp (evD env) o) with | some (.value v) => some v | _ => none

/-- what holds where a batch begins -/
structure Cx where
  P : Program
  w0 : World
  S : List Nat
  H : List Item
abbrev Cx.call (κ : Cx) (f : FuncId) (args : List Value) (v : Value) : Prop := ∀ w, HS κ.w0 κ.S κ.H w → Calls κ.P f args.toArray w fun e w' => e = .returned v ∧ Fr [] w w'
abbrev Cx.rd (κ : Cx) (p : Addr) (vs : List Value) : Prop := Reads κ.w0 κ.S κ.H p vs
abbrev Cx.ix (κ : Cx) (A : Option Addr) (len : Nat) (e : Int) : Prop := (0 ≤ e ∧ e < (len : Int)) ∧ ∀ w, HS κ.w0 κ.S κ.H w → A.isSome = true

/-- the hints: one an operation, but for 'o', which opens a frame ahead of the next one -/
inductive Hn where
  | p | w (e : Int) | eq | es | ld (i : Nat) | rd (vs : List Value) | ix | cq (v : Value) | sk | o | cl | st (i : Nat) | al | ct | si (u : UInt8) | ss

structure Fm where
  dg : Nat
  pol : Bool
  E : Bool
  seg : Env
structure Out where
  env : Env
  H : List Item
  eqs : List (Nat × Nat)
  C : Cx → Prop

def full (base : Env) : List Fm → Env
  | [] => base
  | f :: fs => f.seg ++ full base fs
def top (base : Env) : List Fm → Env
  | [] => base
  | f :: _ => f.seg
def cur : List Fm → Bool
  | [] => true
  | f :: fs => cur fs && (f.E == f.pol)
/-- the slot is not there -/
def freshE : Env → Nat → Bool
  | [], _ => true
  | p :: l, d => !(Nat.beq p.1 d) && freshE l d
def below (base : Env) : List Fm → Env
  | [] => []
  | _ :: fs => full base fs
def putB (base : Env) : List Fm → Option Nat → Value → Env
  | [], d, v => putE base d v
  | _ :: _, _, _ => base
def putF : List Fm → Option Nat → Value → List Fm
  | [], _, _ => []
  | f :: fs, d, v => ⟨f.dg, f.pol, f.E, putE f.seg d v⟩ :: fs
def slotOk (n : Nat) (base : Env) (fs : List Fm) : Option Nat → Bool
  | none => true
  | some d => Nat.blt d n && freshE (below base fs) d
/-- is the operation asked for, if all that is open holds? -/
def guardOk (ops : Array Oper) (base : Env) (fs : List Fm) (o : Oper) : Bool :=
  match fs with
  | [] => (match wantedE ops base o with | some b => b | none => false)
  | f :: _ => (match o.guard with
    | some (j, pol) => (match (ops[j]?).bind (·.dst) with | some d => Nat.beq d f.dg && (pol == f.pol) | none => false)
    | none => false)
def keepE (env : Env) : List Nat → Option Env
  | [] => some []
  | i :: l => match look env i with
    | some v => (match keepE env l with | some r => some ((i, v) :: r) | none => none)
    | none => none
def rowOf (H : List Item) (i : Nat) : Option (Nat × List Value × TypeId) := match H[i]? with | some it => it.row | none => none
def addC (c : Cx → Prop) (fs : List Fm) (r : Cx → Prop) : Cx → Prop :=
  match fs with
  | [] => fun κ => c κ ∧ r κ
  | f :: fs => fun κ => (cur (f :: fs) = true → c κ) ∧ r κ
def argsV (env : Env) : List Operand → Option (List Value)
  | [] => some []
  | x :: l => match ev env x, argsV env l with | some v, some vs => some (v :: vs) | _, _ => none
/-- whom an operation calls, with which arguments -/
def callArgs (env : Env) (o : Oper) : Option (FuncId × List Value) := match o.op with
  | .call c => (match c.callee with
    | .value y => (match ev env y with
      | some (.func (.func f) fs cs) => (match argsV env c.args.toList with | some vs => some (f, fs.toList ++ vs ++ cs.toList) | none => none)
      | _ => none)
    | _ => none)
  | _ => none
/-- a bound of a slicing -/
def bndE (env : Env) (d : Int) : Option Operand → Option Int
  | none => some d
  | some x => match ev env x with | some (.int _ e) => some e | _ => none
/-- a quiet operation that is asked for: its value, an equality of blocks, a condition -/
structure Qv where
  v : Value
  eq : Option (Nat × Nat)
  c : Option (Cx → Prop)
def quietEq (P : Program) (env : Env) (neg : Bool) (t : TypeId) (x y : Operand) : Option Value :=
  match ev env x, ev env y with
  | some (.agg xs), some (.agg ys) => (match P.eqGuardType P.depth t, eqV P 10000 t (.agg xs) (.agg ys) with | false, some b => some (.bool (bif neg then !b else b)) | _, _ => none)
  | some (.bool b), some (.bool c) => (match P.underlying t with | some .bool => some (.bool (bif neg then !(b == c) else (b == c))) | _ => none)
  | some (.string b), some (.string c) => some (.bool (bif neg then b != c else b == c))
  | _, _ => none
def quietV (P : Program) (H : List Item) (clean : Bool) (env : Env) (o : Oper) : Hn → Option Qv
  | .p => match okOps env o with | true => (match pureV P env o with | some v => some ⟨v, none, none⟩ | none => none) | false => none
  | .w e' => match okOps env o with | true => (match pureV P env o with | some (.int k e) => some ⟨.int k e', none, some fun _ => e = e'⟩ | _ => none) | false => none
  | .eq => match o.op with
    | .binOp .eql t x y _ => (match quietEq P env false t x y with | some v => some ⟨v, none, none⟩ | none => none)
    | .binOp .neq t x y _ => (match quietEq P env true t x y with | some v => some ⟨v, none, none⟩ | none => none)
    | _ => none
  | .ld i => match o.op with
    | .load t x => (match ev env x with
      | some (.pointer (some ⟨b', off, none⟩)) => (match rowOf H i with
        | some (b, cs, _) => (match aggOf P t with
          | some k => (match Nat.ble (off + k) cs.length with | true => some ⟨.agg ((cs.drop off).take k).toArray, some (b', b), none⟩ | false => none)
          | none => (match isScalar P t with | true => (match cs[off]? with | some v => some ⟨v, some (b', b), none⟩ | none => none) | false => none))
        | none => none)
      | _ => none)
    | _ => none
  | .rd vs => match clean with
    | true => (match o.op with
      | .load t x => (match ev env x with
        | some (.pointer (some p)) => (match aggOf P t with
          | some k => (match Nat.beq k vs.length with | true => some ⟨.agg vs.toArray, none, some fun κ => κ.rd p vs⟩ | false => none)
          | none => (match isScalar P t, vs with | true, [v] => some ⟨v, none, some fun κ => κ.rd p [v]⟩ | _, _ => none))
        | _ => none)
      | _ => none)
    | false => none
  | .ix => match clean with
    | true => (match o.op with
      | .indexAddr t x y => (match ev env x with
        | some (.slice A len _) => (match ev env y with
          | some (.int _ e) => (match P.underlying t with
            | some (.slice el) => (match P.info? el with
              | some i => some ⟨.pointer (some ((at0 A).add (e.toNat * i.size))), none, some fun κ => κ.ix A len e⟩
              | none => none)
            | _ => none)
          | _ => none)
        | _ => none)
      | _ => none)
    | false => none
  | .cq v => match clean with
    | true => (match callArgs env o with
      | some (f, args) => (match callOk P f with
        | true => some ⟨v, none, some fun κ => κ.call f args v⟩
        | false => none)
      | none => none)
    | false => none
  | .ct => match o.op with
    | .binOp .add _ x y _ => (match ev env x, ev env y with
      | some (.string b), some (.string c) => some ⟨.string ⟨(b.data.toList ++ c.data.toList).toArray⟩, none, some fun _ => b.data.toList.length + c.data.toList.length ≤ 9223372036854775807⟩
      | _, _ => none)
    | _ => none
  | .si u => match o.op with
    | .index t x y => (match ev env x, ev env y, P.underlying t with
      | some (.string s), some (.int _ e), some .string => some ⟨.int .u8 (u.toNat : Int), none, some fun _ => 0 ≤ e ∧ s.data.toList[e.toNat]? = some u⟩
      | _, _, _ => none)
    | _ => none
  | .ss => match o.op with
    | .slice t x lo hi none => (match ev env x, P.underlying t, bndE env 0 lo with
      | some (.string s), some .string, some l => (match bndE env (s.data.toList.length : Int) hi with
        | some h => some ⟨.string ⟨((s.data.toList.take h.toNat).drop l.toNat).toArray⟩, none, some fun _ => (0 ≤ l ∧ l ≤ h) ∧ h ≤ (s.data.toList.length : Int)⟩
        | none => none)
      | _, _, _ => none)
    | _ => none
  | _ => none
def Out.add (o : Out) (fs : List Fm) (q : Qv) : Out :=
  ⟨o.env, o.H, (match q.eq with | some p => p :: o.eqs | none => o.eqs), (match q.c with | some c => addC c fs o.C | none => o.C)⟩
def pickV (f : Fm) (x y : Option Value) : Option Value := match x, y with
  | some (.bool a), some (.bool b) => some (.bool (bif f.E then a else b))
  | _, _ => none
/-- the value of the pick that closes frame f over base and fs -/
def closeV (base : Env) (f : Fm) (fs : List Fm) (o : Oper) : Option Value :=
  match o.op with
  | .pick (.tmp c) x y => (match Nat.beq c f.dg with
    | true => (match f.pol with
      | true => pickV f (ev (f.seg ++ full base fs) x) (ev (full base fs) y)
      | false => pickV f (ev (full base fs) x) (ev (f.seg ++ full base fs) y))
    | false => none)
  | _ => none
def nb : List Hn → Nat
  | [] => 0
  | .al :: l => nb l + 1
  | _ :: l => nb l
def nops : List Hn → Nat
  | [] => 0
  | .o :: l => nops l
  | _ :: l => nops l + 1
/-- the run -/
def X (P : Program) (ops : Array Oper) (n : Nat) (ids : List Nat) : List Hn → List Oper → List Nat → Env → List Fm → List Item → Bool → Option Out
  | [], [], _, base, fs, H, _ => (match fs with | [] => (match keepE base ids with | some e => some ⟨e, H, [], fun _ => True⟩ | none => none) | _ => none)
  | h :: hs, o :: ol, bs, base, fs, H, clean =>
    (match h with
    | .o => (match o.guard with
      | some (j, pol) => (match (ops[j]?).bind (·.dst) with
        | some d => (match look (top base fs) d with
          | some (.bool E) => X P ops n ids hs (o :: ol) bs base (⟨d, pol, E, []⟩ :: fs) H clean
          | _ => none)
        | none => none)
      | none => none)
    | .cl => (match fs with
      | f :: fs => (match guardOk ops base fs o && slotOk n base fs o.dst with
        | true => (match closeV base f fs o with
          | some v => X P ops n ids hs ol bs (putB base fs o.dst v) (putF fs o.dst v) H clean
          | none => none)
        | false => none)
      | [] => none)
    | .sk => (match fs, wantedE ops base o, slotOk n base [] o.dst with
      | [], some false, true => X P ops n ids hs ol bs (putE base o.dst undef) [] H clean
      | _, _, _ => none)
    | .st i => (match fs, guardOk ops base [] o, o.op with
      | [], true, .store t x y => (match ev base x, ev base y, rowOf H i, o.dst with
        | some (.pointer (some ⟨b', off, none⟩)), some u, some (b, cs, ty), none =>
          (match (P.info? t).map (·.size) with
          | some k => (match Nat.beq k u.cells.toList.length && u.cells.toList.all Value.oneCell' && Nat.ble (off + u.cells.toList.length) cs.length with
            | true => (match X P ops n ids hs ol bs base [] (H.set i (blk b (cs.take off ++ u.cells.toList ++ cs.drop (off + u.cells.toList.length)) ty)) false with
              | some r => some ⟨r.env, r.H, (b', b) :: r.eqs, r.C⟩
              | none => none)
            | false => none)
          | none => none)
        | _, _, _, _ => none)
      | _, _, _ => none)
    | .al => (match fs, guardOk ops base [] o, o.dst, bs with
      | [], true, some d, b :: bs => (match Nat.blt d n, o.op with
        | true, .box t x => (match ev base x with
          | some u => X P ops n ids hs ol bs ((d, .pointer (some ⟨b, 0, none⟩)) :: base) [] (H ++ [blk b u.cells.toList t]) false
          | none => none)
        | true, .alloc t => (match (P.info? t).bind (·.zero) with
          | some z => X P ops n ids hs ol bs ((d, .pointer (some ⟨b, 0, none⟩)) :: base) [] (H ++ [blk b z.cells.toList t]) false
          | none => none)
        | _, _ => none)
      | _, _, _, _ => none)
    | h => (match guardOk ops base fs o && slotOk n base fs o.dst with
      | true => (match quietV P H clean (full base fs) o h with
        | some q => (match X P ops n ids hs ol bs (putB base fs o.dst q.v) (putF fs o.dst q.v) H clean with
          | some r => some (r.add fs q)
          | none => none)
        | none => none)
      | false => none))
  | _, _, _, _, _, _, _ => none
end Go.Proofs.Ytinnnoimmioaiaa.V
namespace Go.Proofs.Ytinnnoimmioaiaa.V
open Go

theorem look_append (l1 l2 : Env) (i : Nat) : look (l1 ++ l2) i = match look l1 i with | some v => some v | none => look l2 i := by
  induction l1 with
  | nil => rfl
  | cons p l ih =>
    simp only [List.cons_append, look]
    cases Nat.beq p.1 i <;> simp [ih]
theorem look_map_undef (l : Env) (i : Nat) : look (l.map fun p => (p.1, undef)) i = (look l i).map fun _ => undef := by
  induction l with
  | nil => rfl
  | cons p l ih =>
    simp only [List.map_cons, look]
    cases Nat.beq p.1 i <;> simp [ih]
theorem freshE_append (l1 l2 : Env) (d : Nat) : freshE (l1 ++ l2) d = (freshE l1 d && freshE l2 d) := by
  induction l1 with
  | nil => simp [freshE]
  | cons p l ih => simp [freshE, ih, Bool.and_assoc]
theorem freshE_map (l : Env) (d : Nat) : freshE (l.map fun p => (p.1, undef)) d = freshE l d := by
  induction l with
  | nil => rfl
  | cons p l ih => simp [freshE, ih]
theorem freshE_look {l : Env} {d i : Nat} {v : Value} (h : freshE l d = true) (hl : look l i = some v) : i ≠ d := by
  induction l with
  | nil => simp [look] at hl
  | cons p l ih =>
    simp only [freshE, Bool.and_eq_true, Bool.not_eq_true'] at h
    rcases look_put (d := p.1) (v := p.2) hl with ⟨rfl, _⟩ | ⟨_, hl'⟩
    · exact Nat.ne_of_beq_eq_false h.1
    · exact ih h.2 hl'
theorem Rep.put_fresh {n : Nat} {env : Env} {a : Act} {d : Nat} {u : Value} (h : Rep n env a) (hf : freshE env d = true) : Rep n env (a.put (some d) u) := by
  refine ⟨by simp [Act.put, h.size], by simpa [Act.put] using h.nod, fun i v hv => ?_⟩
  have hne := freshE_look hf hv
  have := h.get i v hv
  simp only [Act.put, Array.getD_eq_getD_getElem?] at this ⊢
  rw [Array.getElem?_setIfInBounds_ne (Ne.symm hne)]; exact this
theorem Rep.append {n : Nat} {e1 e2 : Env} {a : Act} (h1 : Rep n e1 a) (h2 : Rep n e2 a) : Rep n (e1 ++ e2) a :=
  ⟨h1.size, h1.nod, fun i v hv => by
    rw [look_append] at hv
    cases hl : look e1 i with
    | some u => rw [hl] at hv; simp at hv; subst hv; exact h1.get i u hl
    | none => rw [hl] at hv; exact h2.get i v hv⟩

structure RepC (n : Nat) (seg : Env) (c : Bool) (a : Act) : Prop where
  yes : c = true → Rep n seg a
  no : c = false → Rep n (seg.map fun p => (p.1, undef)) a
def Ri (n : Nat) (base : Env) : List Fm → Act → Prop
  | [], a => Rep n base a
  | f :: fs, a => Ri n base fs a ∧ look (top base fs) f.dg = some (.bool f.E) ∧ RepC n f.seg (cur (f :: fs)) a
theorem Ri.full {n : Nat} {base : Env} {a : Act} : ∀ {fs : List Fm}, Ri n base fs a → cur fs = true → Rep n (full base fs) a
  | [], h, _ => h
  | f :: fs, h, hc => by
    have hc' := hc
    simp only [cur, Bool.and_eq_true] at hc'
    exact (h.2.2.yes hc).append (Ri.full h.1 hc'.1)
/-- the top segment: its values, or nothing at all -/
theorem Ri.top {n : Nat} {base : Env} {a : Act} {fs : List Fm} {d : Nat} {v : Value} (h : Ri n base fs a) (hl : look (top base fs) d = some v) : Rep n [(d, bif cur fs then v else undef)] a := by
  cases fs with
  | nil =>
    have h1 : Rep n base a := h
    exact ⟨h1.size, h1.nod, fun i u hu => by rcases look_put hu with ⟨rfl, rfl⟩ | ⟨_, hl'⟩; exact h1.get _ _ hl; simp [look] at hl'⟩
  | cons f fs =>
    have hr := h.2.2
    cases hc : cur (f :: fs) with
    | true => 
      have h1 := hr.yes hc
      exact ⟨h1.size, h1.nod, fun i u hu => by rcases look_put hu with ⟨rfl, rfl⟩ | ⟨_, hl'⟩; exact h1.get _ _ hl; simp [look] at hl'⟩
    | false =>
      have h1 := hr.no hc
      exact ⟨h1.size, h1.nod, fun i u hu => by rcases look_put hu with ⟨rfl, rfl⟩ | ⟨_, hl'⟩; exact h1.get _ _ (by rw [look_map_undef]; show (look f.seg _).map _ = _; rw [show look f.seg d = some v from hl]; rfl); simp [look] at hl'⟩
theorem Ri.wanted {n : Nat} {ops : Array Oper} {base : Env} {fs : List Fm} {a : Act} {o : Oper} (h : Ri n base fs a) (hg : guardOk ops base fs o = true) : Region.wanted o (yielded ops a.tmps) = cur fs := by
  cases fs with
  | nil =>
    simp only [guardOk] at hg
    cases hw : wantedE ops base o with
    | none => rw [hw] at hg; simp at hg
    | some b => rw [hw] at hg; simp only at hg; rw [wanted_of h hw, hg]; rfl
  | cons f fs =>
    simp only [guardOk] at hg
    cases hgd : o.guard with
    | none => rw [hgd] at hg; simp at hg
    | some jp =>
      obtain ⟨j, pol⟩ := jp
      rw [hgd] at hg
      simp only at hg
      cases hd : (ops[j]?).bind (·.dst) with
      | none => rw [hd] at hg; simp at hg
      | some d =>
        rw [hd] at hg
        simp only [Bool.and_eq_true] at hg
        obtain ⟨h1, h2⟩ := hg
        obtain rfl := Nat.eq_of_beq_eq_true h1
        have hp : pol = f.pol := by simpa using h2
        have ht := Ri.top h.1 h.2.1
        refine wanted_of ht ?_
        simp only [wantedE, hgd, hd, Option.bind_some, look, Nat.beq_refl]
        cases hc : cur fs <;> simp [cur, hc, hp, undef]
theorem Ri.put_fresh {n : Nat} {base : Env} {a : Act} {d : Nat} {u : Value} : ∀ {fs : List Fm}, Ri n base fs a → freshE (V.full base fs) d = true → Ri n base fs (a.put (some d) u)
  | [], h, hf => Rep.put_fresh h hf
  | f :: fs, h, hf => by
    simp only [V.full, freshE_append, Bool.and_eq_true] at hf
    exact ⟨Ri.put_fresh h.1 hf.2, h.2.1, ⟨fun hc => (h.2.2.yes hc).put_fresh hf.1, fun hc => (h.2.2.no hc).put_fresh (by rw [freshE_map]; exact hf.1)⟩⟩
theorem Ri.put {n : Nat} {base : Env} {a : Act} {fs : List Fm} {d : Option Nat} {v : Value} (h : Ri n base fs a) (hs : slotOk n base fs d = true) : Ri n (putB base fs d v) (putF fs d v) (a.put d (bif cur fs then v else undef)) := by
  cases d with
  | none => cases fs <;> exact h
  | some d =>
    simp only [slotOk, Bool.and_eq_true] at hs
    have hd : d < n := Nat.le_of_ble_eq_true hs.1
    cases fs with
    | nil => exact Rep.put h hd
    | cons f fs =>
      have hf : freshE (V.full base fs) d = true := hs.2
      refine ⟨Ri.put_fresh h.1 hf, h.2.1, ⟨fun hc => ?_, fun hc => ?_⟩⟩
      · have hc' : cur (f :: fs) = true := hc
        rw [hc']; exact (h.2.2.yes hc').put hd
      · have hc' : cur (f :: fs) = false := hc
        rw [hc']; exact (h.2.2.no hc').put hd
theorem Ri.open_ {n : Nat} {base : Env} {a : Act} {fs : List Fm} {d : Nat} {pol E : Bool} (h : Ri n base fs a) (hl : look (V.top base fs) d = some (.bool E)) : Ri n base (⟨d, pol, E, []⟩ :: fs) a := by
  refine ⟨h, hl, ?_⟩
  have : Rep n [] a := by
    have := Ri.top h hl
    exact this.nil
  exact ⟨fun _ => this, fun _ => this⟩
theorem keepE_rep {n : Nat} {env : Env} {a : Act} (h : Rep n env a) : ∀ {ids : List Nat} {e : Env}, keepE env ids = some e → Rep n e a
  | [], e, hk => by simp [keepE] at hk; subst hk; exact h.nil
  | i :: l, e, hk => by
    simp only [keepE] at hk
    cases hl : look env i with
    | none => rw [hl] at hk; simp at hk
    | some v =>
      rw [hl] at hk
      simp only at hk
      cases hr : keepE env l with
      | none => rw [hr] at hk; simp at hk
      | some r => rw [hr] at hk; simp at hk; subst hk; exact h.cons hl (keepE_rep h hr)

section
variable {P : Program} {Q : Exit → Act → World → Prop} {n : Nat} {env : Env} {w0 : World} {S : List Nat} {H : List Item} {ops : Array Oper} {o : Oper}
theorem rowOf_heap {i b : Nat} {cs : List Value} {t : TypeId} (h : rowOf H i = some (b, cs, t)) : ∃ it, H[i]? = some it ∧ it.foot = [b] ∧ ∀ w, it.holds w → w.heap[b]? = some (.cells cs.toArray t (0, 0)) := by
  unfold rowOf at h
  cases hi : H[i]? with
  | none => rw [hi] at h; simp at h
  | some it => rw [hi] at h; exact ⟨it, rfl, it.rowOk b cs t h⟩
theorem reads_row {i b off : Nat} {cs vs : List Value} {t : TypeId} (hi : rowOf H i = some (b, cs, t)) (hv : (cs.drop off).take vs.length = vs) : Reads w0 S H ⟨b, off, none⟩ vs := by
  obtain ⟨it, h1, _, h2⟩ := rowOf_heap hi
  intro w s j u hu
  rw [add_lit', cell_of_row w b (off + j) cs.toArray t (0, 0) (h2 w (s.mem h1))]
  rw [← hv, List.getElem?_take] at hu
  split at hu
  · rw [List.getElem?_drop] at hu; simpa using hu
  · cases hu
theorem quietEq_eql {t ty : TypeId} {x y : Operand} {v : Value} (ho : o.op = .binOp .eql t x y ty) (h : quietEq P env false t x y = some v) : Qt P n env w0 S H o v := by
  unfold quietEq at h
  split at h
  · rename_i xs ys hx hy
    split at h
    · rename_i b hg he; simp at h; subst h; exact qt_eqlA ho hx hy hg he
    · cases h
  · rename_i b c hx hy
    split at h
    · rename_i ht; simp at h; subst h; exact qt_eqlB ho hx hy ht
    · cases h
  · rename_i b c hx hy
    simp at h; subst h; exact qt_eqlS ho hx hy
  · cases h
theorem quietEq_neq {t ty : TypeId} {x y : Operand} {v : Value} (ho : o.op = .binOp .neq t x y ty) (h : quietEq P env true t x y = some v) : Qt P n env w0 S H o v := by
  unfold quietEq at h
  split at h
  · rename_i xs ys hx hy
    split at h
    · rename_i b hg he; simp at h; subst h; exact qt_neqA ho hx hy hg he
    · cases h
  · rename_i b c hx hy
    split at h
    · rename_i ht; simp at h; subst h; exact qt_neqB ho hx hy ht
    · cases h
  · rename_i b c hx hy
    simp at h; subst h; exact qt_neqS ho hx hy
  · cases h
theorem argsV_map : ∀ {l : List Operand} {vs : List Value}, argsV env l = some vs → l.map (ev env) = vs.map some
  | [], vs, h => by simp [argsV] at h; subst h; rfl
  | x :: l, vs, h => by
    simp only [argsV] at h
    cases hx : ev env x with
    | none => rw [hx] at h; simp at h
    | some v =>
      cases hl : argsV env l with
      | none => rw [hx, hl] at h; simp at h
      | some us => rw [hx, hl] at h; simp at h; subst h; simp [hx, argsV_map hl]
theorem qt_ixS {x y : Operand} {t el : TypeId} {A : Option Addr} {len cap : Nat} {i : TypeInfo} {k : IntKind} {e : Int} (ho : o.op = .indexAddr t x y) (hx : ev env x = some (.slice A len cap)) (hy : ev env y = some (.int k e))
    (ht : P.underlying t = some (.slice el)) (hinf : P.info? el = some i) (hi : 0 ≤ e ∧ e < (len : Int)) (hA : ∀ w, HS w0 S H w → A.isSome = true) :
    Qt P n env w0 S H o (.pointer (some ((at0 A).add (e.toNat * i.size)))) :=
  qt_same fun a w r s => by
    obtain ⟨b, rfl⟩ := Option.isSome_iff_exists.1 (hA w s)
    simp [execOp, ho, r.ev hx, r.ev hy, Instr.indexAt, asIntOf, run_underlying ht, sizeOf, typeInfo, hinf, hi, at0]
theorem callOk_spec {f : FuncId} (hf : callOk P f = true) : ∃ fn, P.funcs[f]? = some fn ∧ fn.name ≠ "runtime.NumGoroutine" ∧ fn.body ≠ none := by
  unfold callOk at hf
  cases hp : P.funcs[f]? with
  | none => rw [hp] at hf; simp at hf
  | some fn =>
    rw [hp] at hf
    simp only [Bool.and_eq_true, bne_iff_ne, ne_eq] at hf
    exact ⟨fn, rfl, hf.1, by cases hb : fn.body <;> simp_all⟩
theorem run_callX {f : FuncId} {args : List Value} {a : Act} {w : World} (r : Rep n env a) (h : callArgs env o = some (f, args)) (hf : callOk P f = true) : (execOp a.eval o).run P w = .ok (.enter f args.toArray) w := by
  unfold callArgs at h
  split at h
  case h_2 => cases h
  rename_i c ho
  split at h
  case h_2 => cases h
  rename_i y hy
  split at h
  case h_2 => cases h
  rename_i g fs cs hv
  split at h
  case h_2 => cases h
  rename_i vs hvs
  simp at h; obtain ⟨rfl, rfl⟩ := h
  obtain ⟨fn, h1, h2, h3⟩ := callOk_spec hf
  have ha : c.args.map a.eval = vs.toArray := args_env r (argsV_map hvs)
  simp [execOp, ho, resolve, hy, r.ev hv, Deferred.ofValue, invoke, callFunc, h1, h2, h3, ha]
theorem qt_callX {f : FuncId} {args : List Value} {v : Value} (h : callArgs env o = some (f, args)) (hf : callOk P f = true) (hc : ∀ w, HS w0 S H w → Calls P f args.toArray w fun e w' => e = .returned v ∧ Fr [] w w') : Qt P n env w0 S H o v := by
  intro a w r s
  rw [run_callX r h hf]
  exact hc w s
theorem str_cat (b c : ByteArray) : b ++ c = ⟨(b.data.toList ++ c.data.toList).toArray⟩ := by
  obtain ⟨⟨l⟩⟩ := b; obtain ⟨⟨m⟩⟩ := c
  apply ByteArray.ext; simp [ByteArray.data_append]
theorem str_size (s : ByteArray) : s.size = s.data.toList.length := rfl
theorem qt_catS {x y : Operand} {t ty : TypeId} {b c : ByteArray} (ho : o.op = .binOp .add t x y ty) (hx : ev env x = some (.string b)) (hy : ev env y = some (.string c)) (h : b.data.toList.length + c.data.toList.length ≤ 9223372036854775807) :
    Qt P n env w0 S H o (.string ⟨(b.data.toList ++ c.data.toList).toArray⟩) :=
  qt_same fun a w r _ => by
    have h1 : b.size + c.size ≤ 9223372036854775807 := h
    have h2 : ¬ ((b.size + c.size : Nat) : Int) > IntKind.i64.max := by simp only [IntKind.max, IntKind.signed, IntKind.bits]; simp; omega
    have h3 : (Op.stringOp .add b c).run P w = .ok (.string ⟨(b.data.toList ++ c.data.toList).toArray⟩) w := by
      unfold Op.stringOp; simp only []; rw [if_neg h2, ← str_cat]; rfl
    simp [execOp, ho, r.ev hx, r.ev hy, eqGuard, binOp, h3]
theorem qt_idxS {x y : Operand} {t : TypeId} {s : ByteArray} {k : IntKind} {e : Int} {u : UInt8} (ho : o.op = .index t x y) (hx : ev env x = some (.string s)) (hy : ev env y = some (.int k e)) (ht : P.underlying t = some .string)
    (h0 : 0 ≤ e) (hu : s.data.toList[e.toNat]? = some u) : Qt P n env w0 S H o (.int .u8 (u.toNat : Int)) :=
  qt_same fun a w r _ => by
    have hs : s[e.toNat]? = some u := by
      obtain ⟨hlt, hg⟩ := List.getElem?_eq_some_iff.1 hu
      have hlt' : e.toNat < s.size := by rw [str_size]; exact hlt
      rw [getElem?_pos s e.toNat hlt']; congr 1
    simp [execOp, ho, r.ev hx, r.ev hy, Instr.index, asIntOf, run_underlying ht, h0, hs]
theorem qt_sliceS {x : Operand} {lo hi : Option Operand} {t : TypeId} {s : ByteArray} {l h : Int} (ho : o.op = .slice t x lo hi none) (hx : ev env x = some (.string s)) (ht : P.underlying t = some .string)
    (hl : bndE env 0 lo = some l) (hh : bndE env (s.data.toList.length : Int) hi = some h) (h1 : 0 ≤ l ∧ l ≤ h) (h2 : h ≤ (s.data.toList.length : Int)) : Qt P n env w0 S H o (.string ⟨((s.data.toList.take h.toNat).drop l.toNat).toArray⟩) :=
  qt_same fun a w r _ => by
    have hex : s.extract l.toNat h.toNat = ⟨((s.data.toList.take h.toNat).drop l.toNat).toArray⟩ := by
      apply ByteArray.ext; apply Array.ext'
      rw [Go.Lib.extract_data, List.drop_take]
    obtain ⟨hn, rfl⟩ : ∃ hn : Nat, h = (hn : Int) := ⟨h.toNat, by omega⟩
    obtain ⟨ln, rfl⟩ : ∃ ln : Nat, l = (ln : Int) := ⟨l.toNat, by omega⟩
    have g2 : hn ≤ s.size := by have := str_size s; omega
    have g1 : ln ≤ hn := by omega
    simp only [Int.toNat_natCast] at hex ⊢
    rw [← hex]
    have hb : (Instr.sliceBounds false s.size s.size (lo.map a.eval) (hi.map a.eval) none).run P w = .ok (ln, hn, s.size) w := by
      cases lo with
      | none =>
        simp only [bndE, Option.some.injEq] at hl
        obtain rfl : ln = 0 := by omega
        cases hi with
        | none =>
          simp only [bndE, Option.some.injEq] at hh
          obtain rfl : hn = s.size := by have := str_size s; omega
          simp [Instr.sliceBounds]
        | some v =>
          simp only [bndE] at hh; split at hh
          · rename_i k e hv; simp only [Option.some.injEq] at hh; subst hh
            simp [Instr.sliceBounds, Instr.sliceBound, r.ev hv, asIntOf, g2]
          · cases hh
      | some u =>
        simp only [bndE] at hl; split at hl
        case h_2 => cases hl
        rename_i k' e' hu
        simp only [Option.some.injEq] at hl; subst hl
        cases hi with
        | none =>
          simp only [bndE, Option.some.injEq] at hh
          obtain rfl : hn = s.size := by have := str_size s; omega
          simp [Instr.sliceBounds, Instr.sliceBound, r.ev hu, asIntOf, g1]
        | some v =>
          simp only [bndE] at hh; split at hh
          · rename_i k e hv; simp only [Option.some.injEq] at hh; subst hh
            simp [Instr.sliceBounds, Instr.sliceBound, r.ev hu, r.ev hv, asIntOf, g1, g2]
          · cases hh
    simp [execOp, ho, r.ev hx, Instr.sliceAt, Instr.slice, run_underlying ht, hb]
theorem quietV_sound {clean : Bool} {h : Hn} {q : Qv} {Hc : List Item} (hq : quietV P H clean env o h = some q) (heq : ∀ p, q.eq = some p → p.1 = p.2) (hc : ∀ c, q.c = some c → c ⟨P, w0, S, Hc⟩) (hH : clean = true → Hc = H) :
    Qt P n env w0 S H o q.v := by
  cases h with
  | p =>
    simp only [quietV] at hq
    split at hq
    · rename_i hok
      split at hq
      · rename_i v hv
        simp at hq; subst hq
        refine qt_pure hok fun w => ?_
        unfold pureV at hv
        split at hv
        · rename_i u hu; simp at hv; subst hv; exact pureRun_run _ _ hu w
        · cases hv
      · cases hq
    · cases hq
  | w e' =>
    simp only [quietV] at hq
    split at hq
    · rename_i hok
      split at hq
      · rename_i k e hv
        simp at hq; subst hq
        have he : e = e' := hc _ rfl
        subst he
        refine qt_pure hok fun w => ?_
        unfold pureV at hv
        split at hv
        · rename_i u hu; simp at hv; subst hv; exact pureRun_run _ _ hu w
        · cases hv
      · cases hq
    · cases hq
  | eq =>
    simp only [quietV] at hq
    split at hq
    · rename_i t x y ty ho
      split at hq
      · rename_i v hv; simp at hq; subst hq; exact quietEq_eql ho hv
      · cases hq
    · rename_i t x y ty ho
      split at hq
      · rename_i v hv; simp at hq; subst hq; exact quietEq_neq ho hv
      · cases hq
    · cases hq
  | ld i =>
    simp only [quietV] at hq
    split at hq
    · rename_i t x ho
      split at hq
      · rename_i b' off hx
        split at hq
        · rename_i b cs ty hr
          split at hq
          · rename_i k hk
            split at hq
            · rename_i hle
              simp at hq; subst hq
              have hb : b' = b := heq _ rfl
              subst hb
              have hlen : ((cs.drop off).take k).length = k := by simp; have := Nat.le_of_ble_eq_true hle; omega
              exact qt_loadN (vs := (cs.drop off).take k) ho hx (by rw [hlen]; exact hk) (reads_row hr (by rw [hlen]))
            · cases hq
          · split at hq
            · rename_i hs
              split at hq
              · rename_i v hv
                simp at hq; subst hq
                have hb : b' = b := heq _ rfl
                subst hb
                refine qt_load1 ho hx hs (reads_row hr ?_)
                obtain ⟨hlt, hget⟩ := List.getElem?_eq_some_iff.1 hv
                rw [List.drop_eq_getElem_cons hlt, hget]; simp
              · cases hq
            · cases hq
        · cases hq
      · cases hq
    · cases hq
  | rd vs =>
    simp only [quietV] at hq
    split at hq
    · rename_i hcl
      have hH' := hH rfl
      subst hH'
      split at hq
      · rename_i t x ho
        split at hq
        · rename_i p hx
          split at hq
          · rename_i k hk
            split at hq
            · rename_i hb
              simp at hq; subst hq
              have := Nat.eq_of_beq_eq_true hb
              subst this
              exact qt_loadN ho hx hk (hc _ rfl)
            · cases hq
          · split at hq
            · rename_i hs
              simp at hq; subst hq
              exact qt_load1 ho hx hs (hc _ rfl)
            · cases hq
        · cases hq
      · cases hq
    · cases hq
  | ix =>
    simp only [quietV] at hq
    split at hq
    · rename_i hcl
      have hH' := hH rfl
      subst hH'
      split at hq
      · rename_i t x y ho
        split at hq
        · rename_i A len cap hx
          split at hq
          · rename_i k e hy
            split at hq
            · rename_i el ht
              split at hq
              · rename_i i hi
                simp at hq; subst hq
                have h := hc _ rfl
                exact qt_ixS ho hx hy ht hi h.1 h.2
              · cases hq
            · cases hq
          · cases hq
        · cases hq
      · cases hq
    · cases hq
  | cq v =>
    simp only [quietV] at hq
    split at hq
    · rename_i hcl
      have hH' := hH rfl
      subst hH'
      split at hq
      · rename_i f args ha
        split at hq
        · rename_i hf
          simp at hq; subst hq
          exact qt_callX ha hf (hc _ rfl)
        · cases hq
      · cases hq
    · cases hq
  | ct =>
    simp only [quietV] at hq
    split at hq
    · rename_i t x y ty ho
      split at hq
      · rename_i b c hx hy
        simp only [Option.some.injEq] at hq; subst hq
        exact qt_catS ho hx hy (hc _ rfl)
      · cases hq
    · cases hq
  | si u =>
    simp only [quietV] at hq
    split at hq
    · rename_i t x y ho
      split at hq
      · rename_i s k e hx hy ht
        simp only [Option.some.injEq] at hq; subst hq
        have h := hc _ rfl
        exact qt_idxS ho hx hy ht h.1 h.2
      · cases hq
    · cases hq
  | ss =>
    simp only [quietV] at hq
    split at hq
    · rename_i t x lo hi ho
      split at hq
      · rename_i s l hx ht hl
        split at hq
        · rename_i h hh
          simp only [Option.some.injEq] at hq; subst hq
          have g := hc _ rfl
          exact qt_sliceS ho hx ht hl hh g.1 g.2
        · cases hq
      · cases hq
    · cases hq
  | es | sk | o | cl | st | al => simp [quietV] at hq

theorem step_cons {rest : List Oper} {a : Act} {w : World} (h1 : Step P ops o (wpList P ops Q rest) a w) : wpList P ops Q (o :: rest) a w := by
  unfold Step at h1
  show if Region.wanted o (yielded ops a.tmps) then _ else _
  split
  · rename_i hw
    rw [if_pos hw] at h1
    exact .inl (Oper.wp_imp h1 fun _ _ h => h)
  · rename_i hw
    rw [if_neg hw] at h1
    exact h1
theorem closeV_sound {base : Env} {f : Fm} {fs : List Fm} {a : Act} {v : Value} (hr : Ri n base (f :: fs) a) (hc : cur fs = true) (h : closeV base f fs o = some v) (w : World) : (execOp a.eval o).run P w = .ok (.value v) w := by
  unfold closeV at h
  split at h
  case h_2 => cases h
  rename_i c x y ho
  split at h
  case h_2 => cases h
  rename_i hb
  have hcf := Nat.eq_of_beq_eq_true hb
  subst hcf
  have hE : a.eval (.tmp f.dg) = .bool f.E := by
    have := Ri.top hr.1 hr.2.1
    rw [hc] at this
    exact this.ev (x := .tmp f.dg) (by simp [ev, look])
  have hout : ∀ z u, ev (V.full base fs) z = some u → a.eval z = u := fun z u hz => (Ri.full hr.1 hc).ev hz
  have hin : (f.E == f.pol) = true → ∀ z u, ev (f.seg ++ V.full base fs) z = some u → a.eval z = u := fun he z u hz => by
    have h1 : cur (f :: fs) = true := by simp only [cur, hc, he]; rfl
    exact (Ri.full hr h1).ev hz
  have hrun : ∀ {xa ya : Bool}, (f.E = true → a.eval x = .bool xa) → (f.E = false → a.eval y = .bool ya) → (execOp a.eval o).run P w = .ok (.value (.bool (bif f.E then xa else ya))) w := by
    intro xa ya h1 h2
    cases hfe : f.E with
    | true => rw [hfe] at hE; simp [execOp, ho, hE, asBool, h1 hfe]
    | false => rw [hfe] at hE; simp [execOp, ho, hE, asBool, h2 hfe]
  cases hp : f.pol with
  | true =>
    rw [hp] at h
    simp only [pickV] at h
    split at h
    · rename_i xa ya hx hy
      simp at h; subst h
      exact hrun (fun he => hin (by rw [he, hp]; rfl) _ _ hx) (fun _ => hout _ _ hy)
    · cases h
  | false =>
    rw [hp] at h
    simp only [pickV] at h
    split at h
    · rename_i xa ya hx hy
      simp at h; subst h
      exact hrun (fun _ => hout _ _ hx) (fun he => hin (by rw [he, hp]; rfl) _ _ hy)
    · cases h
theorem step_quiet {base : Env} {fs : List Fm} {a : Act} {w : World} {v : Value} {K : Act → World → Prop} (hr : Ri n base fs a) (hs : HS w0 S H w) (hg : guardOk ops base fs o = true)
    (hq : cur fs = true → Qt P n (V.full base fs) w0 S H o v) (hk : ∀ w', HS w0 S H w' → K (a.put o.dst (bif cur fs then v else undef)) w') : Step P ops o K a w := by
  unfold Step
  rw [hr.wanted hg]
  cases hc : cur fs with
  | true =>
    rw [if_pos rfl]
    refine wp_of_quiet (hq hc a w (hr.full hc) hs) fun w' hf => ?_
    have := hk w' (hs.kept hf); rw [hc] at this; exact this
  | false =>
    rw [if_neg (by decide)]
    have := hk w hs; rw [hc] at this; exact this
end
end Go.Proofs.Ytinnnoimmioaiaa.V
namespace Go.Proofs.Ytinnnoimmioaiaa.V
open Go
section
variable {P : Program} {Q : Exit → Act → World → Prop} {n : Nat} {env : Env} {w0 : World} {S : List Nat} {H : List Item} {ops : Array Oper} {o : Oper} {K : Act → World → Prop}

structure Good (P : Program) (n : Nat) (w0 : World) (S : List Nat) (Hc : List Item) (K : Act → World → Prop) (r : Out) : Prop where
  eqs : ∀ p ∈ r.eqs, p.1 = p.2
  c : r.C ⟨P, w0, S, Hc⟩
  go : A n r.env w0 S r.H K
theorem Good.tail {Hc : List Item} {r : Out} {fs : List Fm} {q : Qv} (h : Good P n w0 S Hc K (r.add fs q)) : Good P n w0 S Hc K r ∧ (∀ p, q.eq = some p → p.1 = p.2) ∧ (cur fs = true → ∀ c, q.c = some c → c ⟨P, w0, S, Hc⟩) := by
  obtain ⟨h1, h2, h3⟩ := h
  refine ⟨⟨fun p hp => h1 p ?_, ?_, h3⟩, fun p hp => h1 p ?_, fun hc c hqc => ?_⟩
  · simp only [Out.add]; cases q.eq <;> simp [hp]
  · simp only [Out.add] at h2
    cases hqc : q.c with
    | none => rw [hqc] at h2; exact h2
    | some c => rw [hqc] at h2; cases fs <;> exact h2.2
  · simp only [Out.add, hp]; simp
  · simp only [Out.add, hqc] at h2
    cases fs with
    | nil => exact h2.1
    | cons f fs => exact h2.1 hc
def Hyp (P : Program) (n : Nat) (w0 : World) (S : List Nat) (ops : Array Oper) (ids : List Nat) (Hc : List Item) (K : Act → World → Prop) (hs : List Hn) (ol : List Oper) (base : Env) (fs : List Fm) (H : List Item) (clean : Bool) : Prop :=
  ∀ bs : List Nat, bs.length = nb hs → ∃ r, X P ops n ids hs ol bs base fs H clean = some r ∧ Good P n w0 S Hc K r
theorem nb_cons {h : Hn} {hs : List Hn} (hne : h ≠ .al) : nb (h :: hs) = nb hs := by cases h <;> simp_all [nb]
def zeros (k : Nat) : List Nat := List.replicate k 0
theorem zeros_len {k : Nat} : (zeros k).length = k := by simp [zeros]

theorem X_sound {ids : List Nat} {Hc : List Item} {rest : List Oper} : ∀ (hs : List Hn) (ol : List Oper) (base : Env) (fs : List Fm) (H : List Item) (clean : Bool), (clean = true → Hc = H) →
    Hyp P n w0 S ops ids Hc (wpList P ops Q rest) hs ol base fs H clean → ∀ a w, Ri n base fs a → HS w0 S H w → wpList P ops Q (ol ++ rest) a w := by
  intro hs
  induction hs with
  | nil =>
    intro ol base fs H clean hcl hx a w hr hsp
    obtain ⟨r, hX, hG⟩ := hx [] rfl
    cases ol with
    | cons o ol => simp [X] at hX
    | nil =>
      cases fs with
      | cons f fs => simp [X] at hX
      | nil =>
        simp only [X] at hX
        cases hk : keepE base ids with
        | none => rw [hk] at hX; simp at hX
        | some e =>
          rw [hk] at hX
          simp at hX; subst hX
          exact hG.go a w (keepE_rep hr hk) hsp
  | cons h hs ih =>
    intro ol base fs H clean hcl hx a w hr hsp
    cases ol with
    | nil => obtain ⟨r, hX, hG⟩ := hx (zeros _) zeros_len; cases h <;> simp [X] at hX
    | cons o ol =>
      have quiet : (h.casesOn (motive := fun _ => Prop) True (fun _ => True) True True (fun _ => True) (fun _ => True) True (fun _ => True) False False False (fun _ => False) False True (fun _ => True) True : Prop) → wpList P ops Q (o :: ol ++ rest) a w := by
        intro hh
        have hne : h ≠ .al := by intro e; subst e; exact hh
        have hX : ∀ bs, bs.length = nb hs → ∃ q r, guardOk ops base fs o = true ∧ slotOk n base fs o.dst = true ∧ quietV P H clean (V.full base fs) o h = some q ∧ X P ops n ids hs ol bs (putB base fs o.dst q.v) (putF fs o.dst q.v) H clean = some r ∧ Good P n w0 S Hc (wpList P ops Q rest) (r.add fs q) := by
          intro bs hbs
          obtain ⟨r, hX, hG⟩ := hx bs (by rw [nb_cons hne]; exact hbs)
          cases h <;> simp only [X] at hX <;> first | exact hh.elim | skip
          all_goals
            split at hX
            case h_2 => cases hX
            rename_i hgs
            simp only [Bool.and_eq_true] at hgs
            split at hX
            case h_2 => cases hX
            rename_i q hq
            split at hX
            case h_2 => cases hX
            rename_i r' hr'
            simp at hX; subst hX
            exact ⟨q, r', hgs.1, hgs.2, hq, hr', hG⟩
        obtain ⟨q, r, hg, hsl, hq, _, hG⟩ := hX (zeros _) zeros_len
        refine step_cons (step_quiet hr hsp hg (v := q.v) (fun hc => quietV_sound (Hc := Hc) hq hG.tail.2.1 (hG.tail.2.2 hc) hcl) fun w' hs' => ?_)
        refine ih ol _ _ H clean hcl (fun bs hbs => ?_) _ w' (hr.put hsl) hs'
        obtain ⟨q', r', _, _, hq', hX', hG'⟩ := hX bs hbs
        rw [hq] at hq'
        simp at hq'; subst hq'
        exact ⟨r', hX', hG'.tail.1⟩
      cases h with
      | p | w e | eq | es | ld i | rd vs | ix | cq v | ct | si u | ss => exact quiet trivial
      | o =>
        have hX : ∀ bs, bs.length = nb hs → ∃ d pol E r, look (V.top base fs) d = some (.bool E) ∧ X P ops n ids hs (o :: ol) bs base (⟨d, pol, E, []⟩ :: fs) H clean = some r ∧ Good P n w0 S Hc (wpList P ops Q rest) r ∧ (∃ j, o.guard = some (j, pol) ∧ (ops[j]?).bind (·.dst) = some d) := by
          intro bs hbs
          obtain ⟨r, hX, hG⟩ := hx bs hbs
          simp only [X] at hX
          split at hX
          case h_2 => cases hX
          rename_i j pol hgd
          split at hX
          case h_2 => cases hX
          rename_i d hd
          split at hX
          case h_2 => cases hX
          rename_i E hE
          exact ⟨d, pol, E, r, hE, hX, hG, j, hgd, hd⟩
        obtain ⟨d, pol, E, r, hE, _, _, j, hgd, hd⟩ := hX (zeros _) zeros_len
        refine ih (o :: ol) base (⟨d, pol, E, []⟩ :: fs) H clean hcl (fun bs hbs => ?_) a w (hr.open_ hE) hsp
        obtain ⟨d', pol', E', r', hE', hX', hG', j', hgd', hd'⟩ := hX bs hbs
        rw [hgd] at hgd'; simp at hgd'; obtain ⟨rfl, rfl⟩ := hgd'
        rw [hd] at hd'; simp at hd'; subst hd'
        rw [hE] at hE'; simp at hE'; subst hE'
        exact ⟨r', hX', hG'⟩
      | cl =>
        cases fs with
        | nil => obtain ⟨r, hX, hG⟩ := hx (zeros _) zeros_len; simp [X] at hX
        | cons f fs =>
          have hX : ∀ bs, bs.length = nb hs → ∃ v r, guardOk ops base fs o = true ∧ slotOk n base fs o.dst = true ∧ closeV base f fs o = some v ∧ X P ops n ids hs ol bs (putB base fs o.dst v) (putF fs o.dst v) H clean = some r ∧ Good P n w0 S Hc (wpList P ops Q rest) r := by
            intro bs hbs
            obtain ⟨r, hX, hG⟩ := hx bs hbs
            simp only [X] at hX
            split at hX
            case h_2 => cases hX
            rename_i hgs
            simp only [Bool.and_eq_true] at hgs
            split at hX
            case h_2 => cases hX
            rename_i v hv
            exact ⟨v, r, hgs.1, hgs.2, hv, hX, hG⟩
          obtain ⟨v, r, hg, hsl, hv, _, _⟩ := hX (zeros _) zeros_len
          refine step_cons ?_
          have hk : ∀ w', HS w0 S H w' → wpList P ops Q (ol ++ rest) (a.put o.dst (bif cur fs then v else undef)) w' := fun w' hs' => by
            refine ih ol _ _ H clean hcl (fun bs hbs => ?_) _ w' (hr.1.put hsl) hs'
            obtain ⟨v', r', _, _, hv', hX', hG'⟩ := hX bs hbs
            rw [hv] at hv'; simp at hv'; subst hv'
            exact ⟨r', hX', hG'⟩
          unfold Step
          rw [hr.1.wanted hg]
          cases hc : cur fs with
          | true =>
            rw [if_pos rfl]
            unfold Oper.wp
            rw [closeV_sound hr hc hv w]
            simp only [Oper.upon]
            have := hk w hsp; rw [hc] at this; exact this
          | false =>
            rw [if_neg (by decide)]
            have := hk w hsp; rw [hc] at this; exact this
      | sk =>
        have hX : ∀ bs, bs.length = nb hs → ∃ r, fs = [] ∧ wantedE ops base o = some false ∧ slotOk n base [] o.dst = true ∧ X P ops n ids hs ol bs (putE base o.dst undef) [] H clean = some r ∧ Good P n w0 S Hc (wpList P ops Q rest) r := by
          intro bs hbs
          obtain ⟨r, hX, hG⟩ := hx bs hbs
          simp only [X] at hX
          split at hX
          · rename_i hw hsl; exact ⟨r, rfl, hw, hsl, hX, hG⟩
          · cases hX
        obtain ⟨r, rfl, hw, hsl, _, _⟩ := hX (zeros _) zeros_len
        refine step_cons ?_
        unfold Step
        rw [wanted_of hr hw, if_neg (by decide)]
        refine ih ol _ [] H clean hcl (fun bs hbs => ?_) _ w (Ri.put (fs := []) (v := undef) hr hsl) hsp
        obtain ⟨r', _, _, _, hX', hG'⟩ := hX bs hbs
        exact ⟨r', hX', hG'⟩
      | st i =>
        have hX : ∀ bs, bs.length = nb hs → ∃ t x y b off u cs ty r, fs = [] ∧ guardOk ops base [] o = true ∧ o.op = .store t x y ∧ ev base x = some (.pointer (some ⟨b, off, none⟩)) ∧ ev base y = some u ∧ rowOf H i = some (b, cs, ty) ∧ o.dst = none ∧
            (P.info? t).map (·.size) = some u.cells.toList.length ∧ u.cells.toList.all Value.oneCell' = true ∧ off + u.cells.toList.length ≤ cs.length ∧
            X P ops n ids hs ol bs base [] (H.set i (blk b (cs.take off ++ u.cells.toList ++ cs.drop (off + u.cells.toList.length)) ty)) false = some r ∧ Good P n w0 S Hc (wpList P ops Q rest) r := by
          intro bs hbs
          obtain ⟨r, hX, hG⟩ := hx bs hbs
          simp only [X] at hX
          split at hX
          case h_2 => cases hX
          rename_i t x y hg ho
          split at hX
          case h_2 => cases hX
          rename_i b' off u b cs ty hex hey hrow hdst
          split at hX
          case h_2 => cases hX
          rename_i k hk
          split at hX
          case h_2 => cases hX
          rename_i hb
          simp only [Bool.and_eq_true] at hb
          split at hX
          case h_2 => cases hX
          rename_i r' hr'
          simp at hX; subst hX
          have hbb : b' = b := hG.eqs (b', b) (by simp)
          subst hbb
          have := Nat.eq_of_beq_eq_true hb.1.1
          subst this
          exact ⟨t, x, y, b', off, u, cs, ty, r', rfl, hg, ho, hex, hey, hrow, hdst, hk, hb.1.2, Nat.le_of_ble_eq_true hb.2, hr', ⟨fun p hp => hG.eqs p (by simp [hp]), hG.c, hG.go⟩⟩
        obtain ⟨t, x, y, b, off, u, cs, ty, r, rfl, hg, ho, hex, hey, hrow, hdst, hk, h1, hle, _, _⟩ := hX (zeros _) zeros_len
        obtain ⟨it, hit, hft, hrw⟩ := rowOf_heap hrow
        refine step_cons ?_
        unfold Step
        rw [Ri.wanted (fs := []) hr hg]
        rw [if_pos (show cur [] = true from rfl)]
        have hh : w.heap[b]? = some (.cells cs.toArray ty (0, 0)) := hrw w (hsp.mem hit)
        have hst := run_storeCells_at P b off ty u.cells.toList 0 cs.toArray w hh (by simpa using hle) (fun v hv => List.all_eq_true.1 h1 v hv)
        simp only [Nat.add_zero] at hst
        simp only [Option.map_eq_some_iff] at hk
        obtain ⟨inf, hinf, hsz⟩ := hk
        have hrun : (execOp a.eval o).run P w = .ok .skip (w.setRow b (cs.take off ++ u.cells.toList ++ cs.drop (off + u.cells.toList.length)).toArray) := by
          simp only [execOp, ho, Instr.storeAt, Rep.ev hr hex, Rep.ev hr hey, Instr.sureAddr, storeVar, sizeOf, typeInfo, Sem.run_bind, run_program, Sem.run_pure, Result.andThen_ok, hinf, hsz, Array.length_toList]
          simp [hst]
        unfold Oper.wp
        rw [hrun]
        simp only [Oper.upon, hdst]
        refine ih ol base [] _ false (by simp) (fun bs hbs => ?_) a _ hr (hsp.turn (jt := blk b (cs.take off ++ u.cells.toList ++ cs.drop (off + u.cells.toList.length)) ty) hit (by rw [hft]; exact fr_setRow _ _ _) (setRow_at w b _ _ ty hh) (by simp [blk]) (by rw [hft]; simp [blk]))
        obtain ⟨t', x', y', b', off', u', cs', ty', r', _, _, ho', hex', hey', hrow', _, _, _, _, hX', hG'⟩ := hX bs hbs
        rw [ho] at ho'; simp at ho'; obtain ⟨rfl, rfl, rfl⟩ := ho'
        rw [hex] at hex'; simp at hex'; obtain ⟨rfl, rfl⟩ := hex'
        rw [hey] at hey'; simp at hey'; subst hey'
        rw [hrow] at hrow'; simp at hrow'; obtain ⟨rfl, rfl⟩ := hrow'
        exact ⟨r', hX', hG'⟩
      | al =>
        have hX : ∀ b bs, bs.length = nb hs → ∃ d t u r, fs = [] ∧ guardOk ops base [] o = true ∧ o.dst = some d ∧ d < n ∧ ((∃ x, o.op = .box t x ∧ ev base x = some u) ∨ (o.op = .alloc t ∧ (P.info? t).bind (·.zero) = some u)) ∧
            X P ops n ids hs ol bs ((d, .pointer (some ⟨b, 0, none⟩)) :: base) [] (H ++ [blk b u.cells.toList t]) false = some r ∧ Good P n w0 S Hc (wpList P ops Q rest) r := by
          intro b bs hbs
          obtain ⟨r, hX, hG⟩ := hx (b :: bs) (by simp [nb, hbs])
          simp only [X] at hX
          split at hX
          case h_2 => cases hX
          rename_i d b1 bs1 hg hd hbe
          simp at hbe; obtain ⟨rfl, rfl⟩ := hbe
          split at hX
          · rename_i t x hlt ho
            split at hX
            case h_2 => cases hX
            rename_i u hu
            exact ⟨d, t, u, r, rfl, hg, hd, Nat.le_of_ble_eq_true hlt, .inl ⟨x, ho, hu⟩, hX, hG⟩
          · rename_i t hlt ho
            split at hX
            case h_2 => cases hX
            rename_i u hu
            exact ⟨d, t, u, r, rfl, hg, hd, Nat.le_of_ble_eq_true hlt, .inr ⟨ho, hu⟩, hX, hG⟩
          · cases hX
        obtain ⟨d, t, u, r, rfl, hg, hd, hlt, hou, _, _⟩ := hX w.heap.size (zeros _) zeros_len
        refine step_cons ?_
        unfold Step
        rw [Ri.wanted (fs := []) hr hg]
        rw [if_pos (show cur [] = true from rfl)]
        have hrun : (execOp a.eval o).run P w = .ok (.value (.pointer (some ⟨w.heap.size, 0, none⟩))) (w.alloc (.cells u.cells t)) := by
          rcases hou with ⟨x, ho, hu⟩ | ⟨ho, hu⟩
          · simp [execOp, ho, Rep.ev hr hu, Instr.box, newVar, newRow, newObj, Sem.run, World.alloc_eq]
          · simp only [Option.bind_eq_some_iff] at hu
            obtain ⟨i, hi, hz⟩ := hu
            simp [execOp, ho, Instr.alloc, zeroValue, typeInfo, hi, hz, newVar, newRow, newObj, Sem.run, World.alloc_eq]
        unfold Oper.wp
        rw [hrun]
        simp only [Oper.upon, hd]
        refine ih ol _ [] _ false (by simp) (fun bs hbs => ?_) _ _ (Rep.put hr hlt) (hsp.add (it := blk w.heap.size u.cells.toList t) (Fr.alloc _ _ _) (by have := heap_alloc_new w (.cells u.cells t); simpa [blk] using this) (by simp [blk]) (by simp [blk]))
        obtain ⟨d', t', u', r', _, _, hd', _, hou', hX', hG'⟩ := hX w.heap.size bs hbs
        rw [hd] at hd'; simp at hd'; subst hd'
        have : t = t' ∧ u = u' := by
          rcases hou with ⟨x, ho, hu⟩ | ⟨ho, hu⟩ <;> rcases hou' with ⟨x', ho', hu'⟩ | ⟨ho', hu'⟩ <;> rw [ho] at ho' <;> simp at ho'
          · obtain ⟨rfl, rfl⟩ := ho'; rw [hu] at hu'; simp at hu'; exact ⟨rfl, hu'⟩
          · subst ho'; rw [hu] at hu'; simp at hu'; exact ⟨rfl, hu'⟩
        obtain ⟨rfl, rfl⟩ := this
        exact ⟨r', hX', hG'⟩
end
end Go.Proofs.Ytinnnoimmioaiaa.V
namespace Go.Proofs.Ytinnnoimmioaiaa.V
open Go

def dup (l : List Nat) : List (Nat × Nat) := l.map fun b => (b, b)
theorem dup_ok {l : List Nat} : ∀ p ∈ dup l, p.1 = p.2 := by intro p hp; simp [dup] at hp; obtain ⟨b, _, rfl⟩ := hp; rfl
def T0 : Cx → Prop := fun _ => True
def ids (e : Env) : List Nat := e.map (·.1)
section
variable {P : Program} {Q : Exit → Act → World → Prop} {n : Nat} {env : Env} {w0 : World} {S : List Nat} {H : List Item} {ops : Array Oper} {rest : List Oper} {K : Act → World → Prop}

theorem go_core {m : Nat} {k : Nat} (hs : List Hn) (ii : List Nat) (E : List Nat → Env) (H' : List Nat → List Item) (l : List Nat → List Nat) (C : List Nat → Cx → Prop)
    (hx : ∀ bs, bs.length = m → (nb hs, X P ops n ii hs (rest.take k) bs env [] H true) = (m, some ⟨E bs, H' bs, dup (l bs), C bs⟩))
    (hc : ∀ bs, bs.length = m → C bs ⟨P, w0, S, H⟩) (h : ∀ bs, bs.length = m → A n (E bs) w0 S (H' bs) (wpList P ops Q (rest.drop k))) : A n env w0 S H (wpList P ops Q rest) := by
  intro a w r s
  have h1 := X_sound (P := P) (ops := ops) (Q := Q) (Hc := H) (rest := rest.drop k) hs (rest.take k) env [] H true (fun _ => rfl) (ids := ii) (fun bs hbs => ?_) a w r s
  · rw [List.take_append_drop] at h1; exact h1
  · have hm : nb hs = m := by
      have := hx (zeros m) zeros_len
      simp at this; exact this.1
    have := hx bs (hbs.trans hm)
    simp at this
    exact ⟨_, this.2, dup_ok, hc bs (hbs.trans hm), h bs (hbs.trans hm)⟩
/-- to the region's end; nothing is written -/
theorem A.goA (hs : List Hn) (env' : Env) (l : List Nat) (C : Cx → Prop) (hx : (nb hs, X P ops n (ids env') hs rest [] env [] H true) = (0, some ⟨env', H, dup l, C⟩)) (hc : C ⟨P, w0, S, H⟩) (h : A n env' w0 S H (Q .normal)) : A n env w0 S H (wpList P ops Q rest) :=
  go_core (m := 0) (k := rest.length) hs (ids env') (fun _ => env') (fun _ => H) (fun _ => l) (fun _ => C) (fun bs hb => by
    obtain rfl := List.eq_nil_of_length_eq_zero hb
    rw [List.take_length]; exact hx) (fun _ _ => hc) (fun _ _ => by rw [List.drop_length]; exact h)
/-- some of the operations; nothing is written -/
theorem A.goP (hs : List Hn) (env' : Env) (l : List Nat) (C : Cx → Prop) (hx : (nb hs, X P ops n (ids env') hs (rest.take (nops hs)) [] env [] H true) = (0, some ⟨env', H, dup l, C⟩)) (hc : C ⟨P, w0, S, H⟩) (h : A n env' w0 S H (wpList P ops Q (rest.drop (nops hs)))) : A n env w0 S H (wpList P ops Q rest) :=
  go_core (m := 0) (k := nops hs) hs (ids env') (fun _ => env') (fun _ => H) (fun _ => l) (fun _ => C) (fun bs hb => by
    obtain rfl := List.eq_nil_of_length_eq_zero hb
    exact hx) (fun _ _ => hc) (fun _ _ => h)
theorem A.goAS (hs : List Hn) (env' : Env) (H' : List Item) (l : List Nat) (C : Cx → Prop) (hx : (nb hs, X P ops n (ids env') hs rest [] env [] H true) = (0, some ⟨env', H', dup l, C⟩)) (hc : C ⟨P, w0, S, H⟩) (h : A n env' w0 S H' (Q .normal)) : A n env w0 S H (wpList P ops Q rest) :=
  go_core (m := 0) (k := rest.length) hs (ids env') (fun _ => env') (fun _ => H') (fun _ => l) (fun _ => C) (fun bs hb => by
    obtain rfl := List.eq_nil_of_length_eq_zero hb
    rw [List.take_length]; exact hx) (fun _ _ => hc) (fun _ _ => by rw [List.drop_length]; exact h)
theorem A.goPS (hs : List Hn) (env' : Env) (H' : List Item) (l : List Nat) (C : Cx → Prop) (hx : (nb hs, X P ops n (ids env') hs (rest.take (nops hs)) [] env [] H true) = (0, some ⟨env', H', dup l, C⟩)) (hc : C ⟨P, w0, S, H⟩) (h : A n env' w0 S H' (wpList P ops Q (rest.drop (nops hs)))) : A n env w0 S H (wpList P ops Q rest) :=
  go_core (m := 0) (k := nops hs) hs (ids env') (fun _ => env') (fun _ => H') (fun _ => l) (fun _ => C) (fun bs hb => by
    obtain rfl := List.eq_nil_of_length_eq_zero hb
    exact hx) (fun _ _ => hc) (fun _ _ => h)
/-- one new block -/
theorem A.goA1 (hs : List Hn) (ii : List Nat) (E : Nat → Env) (H' : Nat → List Item) (l : Nat → List Nat) (C : Nat → Cx → Prop) (hx : ∀ b, (nb hs, X P ops n ii hs rest [b] env [] H true) = (1, some ⟨E b, H' b, dup (l b), C b⟩)) (hc : ∀ b, C b ⟨P, w0, S, H⟩) (h : ∀ b, A n (E b) w0 S (H' b) (Q .normal)) : A n env w0 S H (wpList P ops Q rest) :=
  go_core (m := 1) (k := rest.length) hs ii (fun bs => E (bs.getD 0 0)) (fun bs => H' (bs.getD 0 0)) (fun bs => l (bs.getD 0 0)) (fun bs => C (bs.getD 0 0)) (fun bs hb => by
    obtain ⟨b, rfl⟩ := List.length_eq_one_iff.1 hb
    rw [List.take_length]; exact hx b) (fun _ _ => hc _) (fun _ _ => by rw [List.drop_length]; exact h _)
theorem A.goP1 (hs : List Hn) (ii : List Nat) (E : Nat → Env) (H' : Nat → List Item) (l : Nat → List Nat) (C : Nat → Cx → Prop) (hx : ∀ b, (nb hs, X P ops n ii hs (rest.take (nops hs)) [b] env [] H true) = (1, some ⟨E b, H' b, dup (l b), C b⟩)) (hc : ∀ b, C b ⟨P, w0, S, H⟩) (h : ∀ b, A n (E b) w0 S (H' b) (wpList P ops Q (rest.drop (nops hs)))) : A n env w0 S H (wpList P ops Q rest) :=
  go_core (m := 1) (k := nops hs) hs ii (fun bs => E (bs.getD 0 0)) (fun bs => H' (bs.getD 0 0)) (fun bs => l (bs.getD 0 0)) (fun bs => C (bs.getD 0 0)) (fun bs hb => by
    obtain ⟨b, rfl⟩ := List.length_eq_one_iff.1 hb
    exact hx b) (fun _ _ => hc _) (fun _ _ => h _)
theorem A.goA2 (hs : List Hn) (ii : List Nat) (E : Nat → Nat → Env) (H' : Nat → Nat → List Item) (l : Nat → Nat → List Nat) (C : Nat → Nat → Cx → Prop) (hx : ∀ b c, (nb hs, X P ops n ii hs rest [b, c] env [] H true) = (2, some ⟨E b c, H' b c, dup (l b c), C b c⟩)) (hc : ∀ b c, C b c ⟨P, w0, S, H⟩) (h : ∀ b c, A n (E b c) w0 S (H' b c) (Q .normal)) : A n env w0 S H (wpList P ops Q rest) :=
  go_core (m := 2) (k := rest.length) hs ii (fun bs => E (bs.getD 0 0) (bs.getD 1 0)) (fun bs => H' (bs.getD 0 0) (bs.getD 1 0)) (fun bs => l (bs.getD 0 0) (bs.getD 1 0)) (fun bs => C (bs.getD 0 0) (bs.getD 1 0)) (fun bs hb => by
    match bs, hb with
    | [b, c], _ => rw [List.take_length]; exact hx b c) (fun _ _ => hc _ _) (fun _ _ => by rw [List.drop_length]; exact h _ _)
theorem A.goP2 (hs : List Hn) (ii : List Nat) (E : Nat → Nat → Env) (H' : Nat → Nat → List Item) (l : Nat → Nat → List Nat) (C : Nat → Nat → Cx → Prop) (hx : ∀ b c, (nb hs, X P ops n ii hs (rest.take (nops hs)) [b, c] env [] H true) = (2, some ⟨E b c, H' b c, dup (l b c), C b c⟩)) (hc : ∀ b c, C b c ⟨P, w0, S, H⟩) (h : ∀ b c, A n (E b c) w0 S (H' b c) (wpList P ops Q (rest.drop (nops hs)))) : A n env w0 S H (wpList P ops Q rest) :=
  go_core (m := 2) (k := nops hs) hs ii (fun bs => E (bs.getD 0 0) (bs.getD 1 0)) (fun bs => H' (bs.getD 0 0) (bs.getD 1 0)) (fun bs => l (bs.getD 0 0) (bs.getD 1 0)) (fun bs => C (bs.getD 0 0) (bs.getD 1 0)) (fun bs hb => by
    match bs, hb with
    | [b, c], _ => exact hx b c) (fun _ _ => hc _ _) (fun _ _ => h _ _)
theorem A.goA3 (hs : List Hn) (ii : List Nat) (E : Nat → Nat → Nat → Env) (H' : Nat → Nat → Nat → List Item) (l : Nat → Nat → Nat → List Nat) (C : Nat → Nat → Nat → Cx → Prop) (hx : ∀ b c d, (nb hs, X P ops n ii hs rest [b, c, d] env [] H true) = (3, some ⟨E b c d, H' b c d, dup (l b c d), C b c d⟩)) (hc : ∀ b c d, C b c d ⟨P, w0, S, H⟩) (h : ∀ b c d, A n (E b c d) w0 S (H' b c d) (Q .normal)) : A n env w0 S H (wpList P ops Q rest) :=
  go_core (m := 3) (k := rest.length) hs ii (fun bs => E (bs.getD 0 0) (bs.getD 1 0) (bs.getD 2 0)) (fun bs => H' (bs.getD 0 0) (bs.getD 1 0) (bs.getD 2 0)) (fun bs => l (bs.getD 0 0) (bs.getD 1 0) (bs.getD 2 0)) (fun bs => C (bs.getD 0 0) (bs.getD 1 0) (bs.getD 2 0)) (fun bs hb => by
    match bs, hb with
    | [b, c, d], _ => rw [List.take_length]; exact hx b c d) (fun _ _ => hc _ _ _) (fun _ _ => by rw [List.drop_length]; exact h _ _ _)
end

/-! ### drawn regions by stages: L: the operations that write, one behind the other -/
def U2 (P : Program) (ops : Array Oper) (K : Act → World → Prop) : Nat → List Nat → (World → Prop) → Array Bool → Act → World → Prop
  | 0, _, _, listed, a, w => Region.ready .any ops listed = [] ∧ ∀ w', Fr [] w w' → K a w'
  | f + 1, L, S, listed, a, w => (Region.ready .any ops listed = [] → ∀ w', Fr [] w w' → K a w') ∧
    ∀ i ∈ Region.ready .any ops listed, ∀ w', Fr [] w w' → wpOp P ops Qf i (fun a' w'' =>
      (L.head? = some i ∧ ∃ S' : World → Prop, (∀ w w', S' w → Fr [] w w' → S' w') ∧ S' w'' ∧ U2 P ops K f L.tail S' (listed.setIfInBounds i true) a' w'') ∨ (L.head? ≠ some i ∧ S w'' ∧ U2 P ops K f L S (listed.setIfInBounds i true) a' w'')) a w'
section
variable {P : Program} {ops : Array Oper} {K : Act → World → Prop} {S : World → Prop} {Q : Exit → Act → World → Prop}
theorem U2.up : ∀ {f : Nat} {L : List Nat} {S : World → Prop} {listed : Array Bool} {a : Act} {w w' : World}, U2 P ops K f L S listed a w → Fr [] w w' → U2 P ops K f L S listed a w'
  | 0, _, _, _, _, _, _, h, hf => ⟨h.1, fun w'' hf' => h.2 w'' (hf.trans hf')⟩
  | _ + 1, _, _, _, _, _, _, h, hf => ⟨fun h0 w'' hf' => h.1 h0 w'' (hf.trans hf'), fun i hi w'' hf' => h.2 i hi w'' (hf.trans hf')⟩
theorem U2.sound : ∀ (f : Nat) (L : List Nat) (S : World → Prop) (listed : Array Bool) (a : Act) (w : World), U2 P ops (Q .normal) f L S listed a w → wpAny P .any ops Q f listed a w
  | 0, _, _, _, _, _, h => ⟨h.1, h.2 _ (Fr.refl _ _)⟩
  | f + 1, L, S, _, _, w, h => ⟨fun h0 => h.1 h0 _ (Fr.refl _ _), fun i hi => wpOp_of (h.2 i hi w (Fr.refl _ _)) fun a' w' h' => by
      rcases h' with ⟨_, S', _, _, h'⟩ | ⟨_, _, h'⟩
      · exact U2.sound f _ _ _ a' w' h'
      · exact U2.sound f _ _ _ a' w' h'⟩
/-- m waits for i, by way of others -/
def far (ops : Array Oper) : Nat → Nat → Nat → Bool
  | 0, _, _ => false
  | f + 1, m, i => match ops[m]? with
    | some o => o.after.any (fun e => Region.binds .any e && (Nat.beq e.on i || far ops f e.on i))
    | none => false
/-- the head of L waits for i -/
def waits (ops : Array Oper) (L : List Nat) (i : Nat) : Bool := match L with
  | [] => true
  | m :: _ => !(Nat.beq m i) && far ops 6 m i
/-- what is listed has all that it waits for -/
def Closed (ops : Array Oper) (listed : Array Bool) : Prop := ∀ j o, ops[j]? = some o → listed.getD j false = true → ∀ e ∈ o.after, Region.binds .any e = true → listed.getD e.on false = true
def closedB (ops : Array Oper) (listed : Array Bool) : Bool := (List.range ops.size).all fun j => !(listed.getD j false) || (match ops[j]? with | some o => o.after.all (fun e => !(Region.binds .any e) || listed.getD e.on false) | none => true)
theorem closedB_spec {listed : Array Bool} (h : closedB ops listed = true) : Closed ops listed := by
  intro j o ho hl e he hb
  have hlt : j < ops.size := (Array.getElem?_eq_some_iff.1 ho).1
  have h1 := List.all_eq_true.1 h j (List.mem_range.2 hlt)
  simp only [hl, Bool.not_true, Bool.false_or, ho] at h1
  have h2 := Array.all_eq_true'.1 h1 e he
  simpa [hb] using h2
theorem Closed.set {listed : Array Bool} {i : Nat} (h : Closed ops listed) (hi : i ∈ Region.ready .any ops listed) : Closed ops (listed.setIfInBounds i true) := by
  intro j o ho hl e he hb
  refine getD_set_true ?_
  by_cases hji : j = i
  · subst hji
    obtain ⟨_, oj, hoj, hall⟩ := mem_ready.1 hi
    rw [ho] at hoj; cases hoj
    exact hall e he hb
  · rw [getD_set_ne false (Ne.symm hji)] at hl
    exact h j o ho hl e he hb
theorem far_listed {listed : Array Bool} (hc : Closed ops listed) : ∀ (f m i : Nat), (∀ o, ops[m]? = some o → ∀ e ∈ o.after, Region.binds .any e = true → listed.getD e.on false = true) → far ops f m i = true → listed.getD i false = true
  | 0, _, _, _, h => by simp [far] at h
  | f + 1, m, i, hm, h => by
    unfold far at h
    cases ho : ops[m]? with
    | none => rw [ho] at h; simp at h
    | some o =>
      rw [ho] at h
      obtain ⟨e, he, hb⟩ := (Array.any_eq_true' .. |>.1 h)
      simp only [Bool.and_eq_true, Bool.or_eq_true] at hb
      have h1 := hm o ho e he hb.1
      rcases hb.2 with h2 | h2
      · rw [← Nat.eq_of_beq_eq_true h2]; exact h1
      · exact far_listed hc f e.on i (fun o' ho' => hc _ o' ho' h1) h2
theorem waits_ready {L : List Nat} {i j : Nat} {listed : Array Bool} (hc : Closed ops listed) (h : waits ops L i = true) (hi : listed.getD i true = false) (hj : j ∈ Region.ready .any ops listed) : L.head? ≠ some j := by
  intro hL
  cases L with
  | nil => cases hL
  | cons m L =>
    simp at hL; subst hL
    obtain ⟨_, oj, hoj, hall⟩ := mem_ready.1 hj
    simp only [waits, Bool.and_eq_true] at h
    have h1 := far_listed hc 6 m i (fun o ho => by rw [hoj] at ho; cases ho; exact hall) h.2
    rcases Nat.lt_or_ge i listed.size with h' | h'
    · simp [h'] at hi h1; rw [hi] at h1; cases h1
    · simp [Array.getElem?_eq_none h'] at hi
theorem waits_ne {L : List Nat} {i : Nat} (h : waits ops L i = true) : L.head? ≠ some i := by
  intro hL
  cases L with
  | nil => cases hL
  | cons m L => simp at hL; subst hL; simp [waits] at h
theorem U2.first {i : Nat} {oi : Oper} {v : Value} {L : List Nat} (hi : ops[i]? = some oi) (hsel : ∀ (j : Nat) (o : Oper) cs b, ops[j]? = some o → o.op ≠ .select cs b) (hcl : ∀ w w', S w → Fr [] w w' → S w') (hL : waits ops L i = true) :
    ∀ (f : Nat) (listed : Array Bool) (a : Act) (w : World), Closed ops listed →
      (∀ j oj, ops[j]? = some oj → j ≠ i → listed.getD j true = false → (∀ e ∈ oj.after, Region.binds .any e = true → e.on ≠ i) → oi.apart ops oj = true) →
      i ∈ Region.ready .any ops listed → Quiet P ops S oi v a → S w → U2 P ops K f L S (listed.setIfInBounds i true) (a.put oi.dst v) w → U2 P ops K (f + 1) L S listed a w := by
  intro f
  induction f with
  | zero =>
    intro listed a w _ _ hr hy hS H
    refine ⟨fun h => (by rw [h] at hr; cases hr), fun j hj w' hf => ?_⟩
    by_cases hji : j = i
    · subst hji; exact hy.wpOp hi (hcl _ _ hS hf) fun w'' hf' => .inr ⟨waits_ne hL, hcl _ _ (hcl _ _ hS hf) hf', H.up (hf.trans hf')⟩
    · have := ready_mono hj hji
      rw [H.1] at this
      cases this
  | succ f ih =>
    intro listed a w hclo hfree hr hy hS H
    refine ⟨fun h => (by rw [h] at hr; cases hr), fun j hj w' hf => ?_⟩
    have hS' := hcl _ _ hS hf
    by_cases hji : j = i
    · subst hji; exact hy.wpOp hi hS' fun w'' hf' => .inr ⟨waits_ne hL, hcl _ _ hS' hf', H.up (hf.trans hf')⟩
    · have h1 := H.2 j (ready_mono hj hji) w' hf
      have hnj := waits_ready hclo hL (mem_ready.1 hr).1 hj
      obtain ⟨hjun, oj, hoj, hall⟩ := mem_ready.1 hj
      have hnot : ∀ e ∈ oj.after, Region.binds .any e = true → e.on ≠ i := fun e he hb heq => by
        have h1 := hall e he hb
        have h0 := (mem_ready.1 hr).1
        rw [heq] at h1
        rcases Nat.lt_or_ge i listed.size with h' | h'
        · simp [h'] at h0 h1; rw [h0] at h1; cases h1
        · simp [Array.getElem?_eq_none h'] at h1
      have h2 := wpOp_comm hoj (hfree j oj hoj hji hjun hnot) (fun cs b => hsel i oi cs b hi) (fun cs b => hsel j oj cs b hoj) hy h1
      have hfree' : ∀ k ok, ops[k]? = some ok → k ≠ i → (listed.setIfInBounds j true).getD k true = false → (∀ e ∈ ok.after, Region.binds .any e = true → e.on ≠ i) → oi.apart ops ok = true := fun k ok hk hki hun hno => by
        refine hfree k ok hk hki ?_ hno
        by_cases hjk : j = k
        · subst hjk; exact hjun
        · rw [getD_set_ne true hjk] at hun; exact hun
      refine wpOp_of h2 fun a' w'' h3 => .inr ⟨hnj, ?_⟩
      obtain ⟨hyq, h3⟩ := h3
      rcases h3 with ⟨hh, _⟩ | ⟨_, hS3, hU3⟩
      · exact absurd hh hnj
      refine ⟨hS3, ih (listed.setIfInBounds j true) a' w'' (hclo.set hj) hfree' (ready_mono hr (Ne.symm hji)) hyq hS3 ?_⟩
      rw [Array.setIfInBounds_comm _ _ hji]
      exact hU3
/-- an operation that does not look at memory may be taken whatever is under way -/
theorem U2.firstP {i : Nat} {oi : Oper} {v : Value} (hi : ops[i]? = some oi) (hsel : ∀ (j : Nat) (o : Oper) cs b, ops[j]? = some o → o.op ≠ .select cs b) :
    ∀ (f : Nat) (L : List Nat) (S : World → Prop) (listed : Array Bool) (a : Act) (w : World), (∀ w w', S w → Fr [] w w' → S w') → i ∉ L →
      (∀ j oj, ops[j]? = some oj → j ≠ i → listed.getD j true = false → (∀ e ∈ oj.after, Region.binds .any e = true → e.on ≠ i) → oi.apart ops oj = true) →
      i ∈ Region.ready .any ops listed → Quiet P ops (fun _ => True) oi v a → S w → U2 P ops K f L S (listed.setIfInBounds i true) (a.put oi.dst v) w → U2 P ops K (f + 1) L S listed a w := by
  intro f
  induction f with
  | zero =>
    intro L S listed a w hcl hL _ hr hy hS H
    refine ⟨fun h => (by rw [h] at hr; cases hr), fun j hj w' hf => ?_⟩
    by_cases hji : j = i
    · subst hji
      refine hy.wpOp hi trivial fun w'' hf' => .inr ⟨fun h => hL (List.mem_of_mem_head? h), hcl _ _ (hcl _ _ hS hf) hf', H.up (hf.trans hf')⟩
    · have := ready_mono hj hji
      rw [H.1] at this
      cases this
  | succ f ih =>
    intro L S listed a w hcl hL hfree hr hy hS H
    refine ⟨fun h => (by rw [h] at hr; cases hr), fun j hj w' hf => ?_⟩
    have hS' := hcl _ _ hS hf
    by_cases hji : j = i
    · subst hji
      exact hy.wpOp hi trivial fun w'' hf' => .inr ⟨fun h => hL (List.mem_of_mem_head? h), hcl _ _ hS' hf', H.up (hf.trans hf')⟩
    · have h1 := H.2 j (ready_mono hj hji) w' hf
      obtain ⟨hjun, oj, hoj, hall⟩ := mem_ready.1 hj
      have hnot : ∀ e ∈ oj.after, Region.binds .any e = true → e.on ≠ i := fun e he hb heq => by
        have h1 := hall e he hb
        have h0 := (mem_ready.1 hr).1
        rw [heq] at h1
        rcases Nat.lt_or_ge i listed.size with h' | h'
        · simp [h'] at h0 h1; rw [h0] at h1; cases h1
        · simp [Array.getElem?_eq_none h'] at h1
      have h2 := wpOp_comm hoj (hfree j oj hoj hji hjun hnot) (fun cs b => hsel i oi cs b hi) (fun cs b => hsel j oj cs b hoj) hy h1
      have hfree' : ∀ k ok, ops[k]? = some ok → k ≠ i → (listed.setIfInBounds j true).getD k true = false → (∀ e ∈ ok.after, Region.binds .any e = true → e.on ≠ i) → oi.apart ops ok = true := fun k ok hk hki hun hno => by
        refine hfree k ok hk hki ?_ hno
        by_cases hjk : j = k
        · subst hjk; exact hjun
        · rw [getD_set_ne true hjk] at hun; exact hun
      refine wpOp_of h2 fun a' w'' h3 => ?_
      obtain ⟨hyq, h3⟩ := h3
      rcases h3 with ⟨hh, S', hcl', hS3, hU3⟩ | ⟨hh, hS3, hU3⟩
      · refine .inl ⟨hh, S', hcl', hS3, ih L.tail S' (listed.setIfInBounds j true) a' w'' hcl' (fun h => hL (List.mem_of_mem_tail h)) hfree' (ready_mono hr (Ne.symm hji)) hyq hS3 ?_⟩
        rw [Array.setIfInBounds_comm _ _ hji]
        exact hU3
      · refine .inr ⟨hh, hS3, ih L S (listed.setIfInBounds j true) a' w'' hcl hL hfree' (ready_mono hr (Ne.symm hji)) hyq hS3 ?_⟩
        rw [Array.setIfInBounds_comm _ _ hji]
        exact hU3
end
def Hn.isPure : Hn → Bool
  | .p => true
  | .w _ => true
  | .eq => true
  | .sk => true
  | .cl => true
  | _ => false
def notIn (i : Nat) : List Nat → Bool
  | [] => true
  | j :: l => !(Nat.beq j i) && notIn i l
theorem notIn_spec {i : Nat} : ∀ {l : List Nat}, notIn i l = true → i ∉ l
  | [], _ => by simp
  | j :: l, h => by
    simp only [notIn, Bool.and_eq_true, Bool.not_eq_true'] at h
    simp only [List.mem_cons, not_or]
    exact ⟨fun e => Nat.ne_of_beq_eq_false h.1 e.symm, notIn_spec h.2⟩
def drawOk (ops : Array Oper) (L : List Nat) : List Hn → List Nat → Array Bool → Bool
  | [], [], _ => true
  | .o :: hs, l, listed => drawOk ops L hs l listed
  | h :: hs, i :: l, listed => (takeOk ops listed i && closedB ops listed) && (waits ops L i || (h.isPure && notIn i L)) && drawOk ops L hs l (listed.setIfInBounds i true)
  | _, _, _ => false
def markAll (listed : Array Bool) : List Nat → Array Bool
  | [] => listed
  | i :: l => markAll (listed.setIfInBounds i true) l
def opsAt (ops : Array Oper) : List Nat → List Oper
  | [] => []
  | i :: l => match ops[i]? with | some o => o :: opsAt ops l | none => []
def calm : List Hn → Bool
  | [] => true
  | .st _ :: _ => false
  | .al :: _ => false
  | _ :: l => calm l
section
variable {P : Program} {Q : Exit → Act → World → Prop} {n : Nat} {env : Env} {w0 : World} {S : List Nat} {H : List Item} {ops : Array Oper} {K : Act → World → Prop} {l : List Oper} {o : Oper} {f : Nat} {L : List Nat} {listed : Array Bool}
theorem A.draw2' {id : Nat} (L : List Nat) (hm : P.follows .mixedOrders = true) (h : A n env w0 S H (U2 P l.toArray (Q .normal) l.length L (HS w0 S H) (Array.replicate l.length false))) :
    A n env w0 S H ((Code.region id l.toArray true).wp P Q) := fun a w r s =>
  wp_region_any hm (U2.sound _ _ _ _ _ _ (by simpa using h a _ r (s.kept (Fr.drew _ _))))
theorem A.draw2 {id : Nat} (L : List Nat) (k : Nat) (hk : (Nat.beq l.length k && P.follows .mixedOrders) = true) (h : A n env w0 S H (U2 P l.toArray (Q .normal) k L (HS w0 S H) (Array.replicate k false))) :
    A n env w0 S H ((Code.region id l.toArray true).wp P Q) := by
  simp only [Bool.and_eq_true] at hk
  obtain rfl := Nat.eq_of_beq_eq_true hk.1
  exact A.draw2' L hk.2 h
theorem quiet_of {base : Env} {fs : List Fm} {a : Act} {v : Value} (hr : Ri n base fs a) (hg : guardOk ops base fs o = true) (hq : cur fs = true → Qt P n (V.full base fs) w0 S H o v) : Quiet P ops (HS w0 S H) o (bif cur fs then v else undef) a := by
  cases hc : cur fs with
  | true => exact .inl ⟨by rw [hr.wanted hg, hc], fun w s => hq hc a w (hr.full hc) s⟩
  | false => exact .inr ⟨by rw [hr.wanted hg, hc], rfl⟩
theorem take_core {i : Nat} {v : Value} {a : Act} {w : World} (hi : ops[i]? = some o) (ht : (takeOk ops listed i && closedB ops listed) = true) (hL : waits ops L i = true) (hq : Quiet P ops (HS w0 S H) o v a) (s : HS w0 S H w)
    (h : U2 P ops K f L (HS w0 S H) (listed.setIfInBounds i true) (a.put o.dst v) w) : U2 P ops K (f + 1) L (HS w0 S H) listed a w := by
  simp only [takeOk, Bool.and_eq_true] at ht
  exact U2.first hi (Region.noSelect_spec ht.1.2) (fun w w' hw hf => hw.kept hf) hL f listed a w (closedB_spec ht.2) (Region.free_spec hi ht.1.1.1) (by simpa using ht.1.1.2) hq s h
theorem take_coreP {i : Nat} {v : Value} {a : Act} {w : World} (hi : ops[i]? = some o) (ht : (takeOk ops listed i && closedB ops listed) = true) (hL : notIn i L = true) (hq : Quiet P ops (fun _ => True) o v a) (s : HS w0 S H w)
    (h : U2 P ops K f L (HS w0 S H) (listed.setIfInBounds i true) (a.put o.dst v) w) : U2 P ops K (f + 1) L (HS w0 S H) listed a w := by
  simp only [takeOk, Bool.and_eq_true] at ht
  exact U2.firstP hi (Region.noSelect_spec ht.1.2) f L (HS w0 S H) listed a w (fun w w' hw hf => hw.kept hf) (notIn_spec hL) (Region.free_spec hi ht.1.1.1) (by simpa using ht.1.1.2) hq s h
theorem quietV_pure {clean : Bool} {h : Hn} {q : Qv} {κ : Cx} (hp : h.isPure = true) (hq : quietV P H clean env o h = some q) (hc : ∀ c, q.c = some c → c κ) {a : Act} {w : World} (r : Rep n env a) : quietUpon P w q.v ((execOp a.eval o).run P w) := by
  cases h with
  | p =>
    simp only [quietV] at hq
    split at hq
    · rename_i hok
      split at hq
      · rename_i v hv
        simp at hq; subst hq
        refine qt_pure (n := n) (w0 := w) (S := []) (H := []) hok (fun w => ?_) a w r (HS.nil w)
        unfold pureV at hv
        split at hv
        · rename_i u hu; simp at hv; subst hv; exact pureRun_run _ _ hu w
        · cases hv
      · cases hq
    · cases hq
  | w e' =>
    simp only [quietV] at hq
    split at hq
    · rename_i hok
      split at hq
      · rename_i k e hv
        simp at hq; subst hq
        have he : e = e' := hc _ rfl
        subst he
        refine qt_pure (n := n) (w0 := w) (S := []) (H := []) hok (fun w => ?_) a w r (HS.nil w)
        unfold pureV at hv
        split at hv
        · rename_i u hu; simp at hv; subst hv; exact pureRun_run _ _ hu w
        · cases hv
      · cases hq
    · cases hq
  | eq =>
    simp only [quietV] at hq
    split at hq
    · rename_i t x y ty ho
      split at hq
      · rename_i v hv; simp at hq; subst hq; exact quietEq_eql (n := n) (w0 := w) (S := []) (H := []) ho hv a w r (HS.nil w)
      · cases hq
    · rename_i t x y ty ho
      split at hq
      · rename_i v hv; simp at hq; subst hq; exact quietEq_neq (n := n) (w0 := w) (S := []) (H := []) ho hv a w r (HS.nil w)
      · cases hq
    · cases hq
  | _ => simp [Hn.isPure] at hp <;> simp [quietV] at hq
theorem X_draw {ids : List Nat} {Hc : List Item} : ∀ (hs : List Hn) (order : List Nat) (listed : Array Bool) (base : Env) (fs : List Fm) (clean : Bool), calm hs = true → drawOk ops L hs order listed = true → (clean = true → Hc = H) → (opsAt ops order).length = order.length →
    (∃ r, X P ops n ids hs (opsAt ops order) [] base fs H clean = some r ∧ Good P n w0 S Hc (U2 P ops K f L (HS w0 S H) (markAll listed order)) r) →
    ∀ a w, Ri n base fs a → HS w0 S H w → U2 P ops K (f + order.length) L (HS w0 S H) listed a w := by
  intro hs
  induction hs with
  | nil =>
    intro order listed base fs clean _ hd hcl hlen ⟨r, hX, hG⟩ a w hr hsp
    cases order with
    | cons i order =>
      cases hi : ops[i]? with
      | none => simp [opsAt, hi] at hlen
      | some o => simp [opsAt, hi, X] at hX
    | nil =>
      simp only [opsAt] at hX
      cases fs with
      | cons f fs => simp [X] at hX
      | nil =>
        simp only [X] at hX
        cases hk : keepE base ids with
        | none => rw [hk] at hX; simp at hX
        | some e =>
          rw [hk] at hX
          simp at hX; subst hX
          exact hG.go a w (keepE_rep hr hk) hsp
  | cons h hs ih =>
    intro order listed base fs clean hcalm hd hcl hlen ⟨r, hX, hG⟩ a w hr hsp
    cases order with
    | nil => cases h <;> simp [opsAt, X] at hX
    | cons i order =>
      cases hi : ops[i]? with
      | none => simp [opsAt, hi] at hlen
      | some o =>
        have hlen' : (opsAt ops order).length = order.length := by simpa [opsAt, hi] using hlen
        have hd0 := hd
        simp only [opsAt, hi] at hX
        have simpX : h ≠ .o → calm hs = true → (match guardOk ops base fs o && slotOk n base fs o.dst with
            | true => (match quietV P H clean (V.full base fs) o h with
              | some q => (match X P ops n ids hs (opsAt ops order) [] (putB base fs o.dst q.v) (putF fs o.dst q.v) H clean with
                | some r => some (r.add fs q)
                | none => none)
              | none => none)
            | false => none) = some r → U2 P ops K (f + (i :: order).length) L (HS w0 S H) listed a w := by
          intro hno hcalm hX
          have hd : ((takeOk ops listed i && closedB ops listed) && (waits ops L i || (h.isPure && notIn i L)) && drawOk ops L hs order (listed.setIfInBounds i true)) = true := by
            cases h <;> first | exact absurd rfl hno | exact hd
          obtain ⟨hd1, hd⟩ := Bool.and_eq_true_iff.1 hd
          obtain ⟨ht, hw⟩ := Bool.and_eq_true_iff.1 hd1
          split at hX
          case h_2 => cases hX
          rename_i hgs
          simp only [Bool.and_eq_true] at hgs
          split at hX
          case h_2 => cases hX
          rename_i q hq
          split at hX
          case h_2 => cases hX
          rename_i r' hr'
          simp at hX; subst hX
          have hk : U2 P ops K (f + order.length) L (HS w0 S H) (listed.setIfInBounds i true) (a.put o.dst (bif cur fs then q.v else undef)) w :=
            ih order _ _ _ clean hcalm hd hcl hlen' ⟨r', hr', hG.tail.1⟩ _ w (hr.put hgs.2) hsp
          rcases Bool.or_eq_true_iff.1 hw with hw | hw
          · exact take_core hi ht hw (quiet_of hr hgs.1 (fun hc => quietV_sound (Hc := Hc) hq hG.tail.2.1 (hG.tail.2.2 hc) hcl)) hsp hk
          · obtain ⟨hp, hw⟩ := Bool.and_eq_true_iff.1 hw
            refine take_coreP hi ht hw ?_ hsp hk
            cases hc : cur fs with
            | true => exact .inl ⟨by rw [hr.wanted hgs.1, hc], fun w _ => quietV_pure hp hq (hG.tail.2.2 hc) (hr.full hc)⟩
            | false => exact .inr ⟨by rw [hr.wanted hgs.1, hc], rfl⟩
        cases h with
        | p | w e | eq | es | ld j | rd vs | ix | cq v | ct | si u | ss => simp only [X] at hX; exact simpX (by simp) (by simpa [calm] using hcalm) hX
        | st j | al => simp [calm] at hcalm
        | o =>
          simp only [X] at hX
          split at hX
          case h_2 => cases hX
          rename_i j pol hgd
          split at hX
          case h_2 => cases hX
          rename_i d hdd
          split at hX
          case h_2 => cases hX
          rename_i E hE
          exact ih (i :: order) listed base _ clean (by simpa [calm] using hcalm) hd0 hcl hlen ⟨r, by simp only [opsAt, hi]; exact hX, hG⟩ a w (hr.open_ hE) hsp
        | cl =>
          obtain ⟨hd1, hd⟩ := Bool.and_eq_true_iff.1 (show ((takeOk ops listed i && closedB ops listed) && (waits ops L i || (Hn.cl.isPure && notIn i L)) && drawOk ops L hs order (listed.setIfInBounds i true)) = true from hd)
          obtain ⟨ht, hw⟩ := Bool.and_eq_true_iff.1 hd1
          cases fs with
          | nil => simp [X] at hX
          | cons f1 fs =>
            simp only [X] at hX
            split at hX
            case h_2 => cases hX
            rename_i hgs
            simp only [Bool.and_eq_true] at hgs
            split at hX
            case h_2 => cases hX
            rename_i v hv
            have hq : ∀ SS : World → Prop, Quiet P ops SS o (bif cur fs then v else undef) a := fun SS => by
              cases hc : cur fs with
              | true =>
                refine .inl ⟨by rw [hr.1.wanted hgs.1, hc], fun w s => ?_⟩
                rw [closeV_sound hr hc hv w]
                exact ⟨rfl, Fr.refl _ _⟩
              | false => exact .inr ⟨by rw [hr.1.wanted hgs.1, hc], rfl⟩
            have hk : U2 P ops K (f + order.length) L (HS w0 S H) (listed.setIfInBounds i true) (a.put o.dst (bif cur fs then v else undef)) w :=
              ih order _ _ _ clean (by simpa [calm] using hcalm) hd hcl hlen' ⟨r, hX, hG⟩ _ w (hr.1.put hgs.2) hsp
            rcases Bool.or_eq_true_iff.1 hw with hw | hw
            · exact take_core hi ht hw (hq _) hsp hk
            · exact take_coreP hi ht (Bool.and_eq_true_iff.1 hw).2 (hq _) hsp hk
        | sk =>
          obtain ⟨hd1, hd⟩ := Bool.and_eq_true_iff.1 (show ((takeOk ops listed i && closedB ops listed) && (waits ops L i || (Hn.sk.isPure && notIn i L)) && drawOk ops L hs order (listed.setIfInBounds i true)) = true from hd)
          obtain ⟨ht, hw⟩ := Bool.and_eq_true_iff.1 hd1
          simp only [X] at hX
          split at hX
          case h_2 => cases hX
          rename_i hwt hsl
          have hq : ∀ SS : World → Prop, Quiet P ops SS o undef a := fun SS => .inr ⟨wanted_of hr hwt, rfl⟩
          have hk : U2 P ops K (f + order.length) L (HS w0 S H) (listed.setIfInBounds i true) (a.put o.dst undef) w :=
            ih order _ _ [] clean (by simpa [calm] using hcalm) hd hcl hlen' ⟨r, hX, hG⟩ _ w (Ri.put (fs := []) (v := undef) hr hsl) hsp
          rcases Bool.or_eq_true_iff.1 hw with hw | hw
          · exact take_core hi ht hw (hq _) hsp hk
          · exact take_coreP hi ht (Bool.and_eq_true_iff.1 hw).2 (hq _) hsp hk
/-- some operations, in this order -/
theorem A.drawP {f' : Nat} (f : Nat) (hs : List Hn) (order : List Nat) (env' : Env) (l : List Nat) (C : Cx → Prop)
    (hx : (calm hs && drawOk ops L hs order listed && Nat.beq (opsAt ops order).length order.length && Nat.beq f' (f + order.length), X P ops n (ids env') hs (opsAt ops order) [] env [] H true) = (true, some ⟨env', H, dup l, C⟩))
    (hc : C ⟨P, w0, S, H⟩) (h : A n env' w0 S H (U2 P ops K f L (HS w0 S H) (markAll listed order))) : A n env w0 S H (U2 P ops K f' L (HS w0 S H) listed) := by
  intro a w r s
  simp only [Prod.mk.injEq, Bool.and_eq_true] at hx
  have hf := Nat.eq_of_beq_eq_true hx.1.2
  rw [hf]
  exact X_draw (Hc := H) hs order listed env [] true hx.1.1.1.1 hx.1.1.1.2 (fun _ => rfl) (Nat.eq_of_beq_eq_true hx.1.1.2) ⟨_, hx.2, dup_ok, hc, h⟩ a w r s
/-- .. all of them -/
theorem A.drawA {id : Nat} (hs : List Hn) (order : List Nat) (env' : Env) (l2 : List Nat) (C : Cx → Prop) (hm : P.follows .mixedOrders = true)
    (hx : (calm hs && drawOk l.toArray [] hs order (Array.replicate l.length false) && Nat.beq (opsAt l.toArray order).length order.length && Nat.beq order.length l.length && (Region.ready .any l.toArray (markAll (Array.replicate l.length false) order)).isEmpty,
      X P l.toArray n (ids env') hs (opsAt l.toArray order) [] env [] H true) = (true, some ⟨env', H, dup l2, C⟩))
    (hc : C ⟨P, w0, S, H⟩) (h : A n env' w0 S H (Q .normal)) : A n env w0 S H ((Code.region id l.toArray true).wp P Q) := by
  refine A.draw2' [] hm ?_
  intro a w r s
  simp only [Prod.mk.injEq, Bool.and_eq_true] at hx
  have hl := Nat.eq_of_beq_eq_true hx.1.1.2
  have := X_draw (Hc := H) (K := Q .normal) (f := 0) (L := []) hs order (Array.replicate l.length false) env [] true hx.1.1.1.1.1 hx.1.1.1.1.2 (fun _ => rfl) (Nat.eq_of_beq_eq_true hx.1.1.1.2) ⟨_, hx.2, dup_ok, hc, ?_⟩ a w r s
  · rw [Nat.zero_add, hl] at this; exact this
  · intro a w r s
    refine ⟨by simpa using hx.1.2, fun w' hf => h a w' r (s.kept hf)⟩
/-- one quiet operation -/
theorem A.take2 (i : Nat) (d : Option Nat) (v : Value) (hi : ops[i]? = some o) (ht : ((takeOk ops listed i && closedB ops listed) && waits ops L i) = true) (hok : headOk ops n env o d = true) (hq : Qt P n env w0 S H o v)
    (h : A n (putE env d v) w0 S H (U2 P ops K f L (HS w0 S H) (listed.setIfInBounds i true))) : A n env w0 S H (U2 P ops K (f + 1) L (HS w0 S H) listed) := by
  intro a w r s
  obtain ⟨h1, h2, h3, _⟩ := headOk_spec hok
  obtain ⟨ht1, ht2⟩ := Bool.and_eq_true_iff.1 ht
  refine take_core hi ht1 ht2 (.inl ⟨wanted_of r h1, fun w' s' => hq a w' r s'⟩) s ?_
  rw [h2]
  exact h _ w (r.putE h3) s
/-- the operation that writes, when it alone may come up -/
theorem A.only2 (i : Nat) (hi : ops[i]? = some o) (hr : Region.ready .any ops listed = [i])
    (h : A n env w0 S H (Step P ops o (fun a w => ∃ S' : World → Prop, (∀ w w', S' w → Fr [] w w' → S' w') ∧ S' w ∧ U2 P ops K f L S' (listed.setIfInBounds i true) a w))) : A n env w0 S H (U2 P ops K (f + 1) (i :: L) (HS w0 S H) listed) := by
  intro a w r s
  refine ⟨fun h0 => (by rw [hr] at h0; cases h0), fun j hj w' hf => ?_⟩
  rw [hr, List.mem_singleton] at hj
  subst hj
  have h1 := h a w' r (s.kept hf)
  unfold Step at h1
  unfold wpOp
  simp only [hi]
  split
  · rename_i hw; rw [if_pos hw] at h1; exact .inl (Oper.wp_imp h1 fun _ _ h => .inl ⟨rfl, h⟩)
  · rename_i hw; rw [if_neg hw] at h1; exact .inl ⟨rfl, h1⟩
/-- a quiet one and the one that writes: in either order -/
theorem A.fork2 (i j : Nat) {o' : Oper} (hi : ops[i]? = some o) (hj : ops[j]? = some o') (hr : (Region.ready .any ops listed, Nat.beq i j) = ([i, j], false))
    (h1 : A n env w0 S H (Step P ops o (fun a w => HS w0 S H w ∧ U2 P ops K f (j :: L) (HS w0 S H) (listed.setIfInBounds i true) a w)))
    (h2 : A n env w0 S H (Step P ops o' (fun a w => ∃ S' : World → Prop, (∀ w w', S' w → Fr [] w w' → S' w') ∧ S' w ∧ U2 P ops K f L S' (listed.setIfInBounds j true) a w))) : A n env w0 S H (U2 P ops K (f + 1) (j :: L) (HS w0 S H) listed) := by
  intro a w r s
  simp only [Prod.mk.injEq] at hr
  refine ⟨fun h0 => (by rw [hr.1] at h0; cases h0), fun m hm w' hf => ?_⟩
  have hij := Nat.ne_of_beq_eq_false hr.2
  rw [hr.1] at hm
  simp only [List.mem_cons, List.not_mem_nil, or_false] at hm
  rcases hm with rfl | rfl
  · have h := h1 a w' r (s.kept hf)
    unfold Step at h
    unfold wpOp
    simp only [hi]
    split
    · rename_i hw; rw [if_pos hw] at h; exact .inl (Oper.wp_imp h fun _ _ h => .inr ⟨by simpa using fun e => hij e.symm, h⟩)
    · rename_i hw; rw [if_neg hw] at h; exact .inr ⟨by simpa using fun e => hij e.symm, h⟩
  · have h := h2 a w' r (s.kept hf)
    unfold Step at h
    unfold wpOp
    simp only [hj]
    split
    · rename_i hw; rw [if_pos hw] at h; exact .inl (Oper.wp_imp h fun _ _ h => .inl ⟨rfl, h⟩)
    · rename_i hw; rw [if_neg hw] at h; exact .inl ⟨rfl, h⟩
theorem A.stage (h : A n env w0 S H (U2 P ops K f L (HS w0 S H) listed)) : A n env w0 S H (fun a w => ∃ S' : World → Prop, (∀ w w', S' w → Fr [] w w' → S' w') ∧ S' w ∧ U2 P ops K f L S' listed a w) := fun a w r s => ⟨HS w0 S H, fun _ _ hw hf => hw.kept hf, s, h a w r s⟩
theorem A.fin2 (hr : Region.ready .any ops listed = []) (h : A n env w0 S H K) : A n env w0 S H (U2 P ops K f L (HS w0 S H) listed) := by
  intro a w r s
  cases f with
  | zero => exact ⟨hr, fun w' hf => h a w' r (s.kept hf)⟩
  | succ f => exact ⟨fun _ w' hf => h a w' r (s.kept hf), by rw [hr]; simp⟩
end
end Go.Proofs.Ytinnnoimmioaiaa.V
