/- My own verifier: the sorted keys of a map of ints, from the shelf's contracts. Generic: nothing of the dump. -/
import Derived.Test.YtaacfehlcdkdhaaGreatDoorVn
import Derived.Shelf.SlIterI.Nil
namespace Go.Proofs.YtaacfehlcdkdhaaGreatDoor.V
set_option linter.unusedVariables false
set_option linter.unusedSimpArgs false
open Go Go.RowKit Go.Maps Go.Sort Go.WideElems
def R0 : Value → Option (DataW Unit × List MemPlace) := fun _ => some (.lit (.bool true), [])
def I64 (x : Int) : Prop := -9223372036854775808 ≤ x ∧ x ≤ 9223372036854775807
def sortK {β : Type} (kv : List (Int × β)) : List Int := (kv.map (·.1)).mergeSort fun x y => decide (x ≤ y)
section
variable {β : Type} {encv : β → Value} {P : Program} {kt : TypeId}
theorem keyOf_i (hk : P.underlying kt = some (.int .i64)) {x : Int} (hx : I64 x) : keyOf P kt (.int .i64 x) = some (.int .i64 x) := by
  have hw : (Lit.int .i64 x).wf = true := by
    obtain ⟨h1, h2⟩ := hx
    have e1 : IntKind.i64.min = -9223372036854775808 := by decide
    have e2 : IntKind.i64.max = 9223372036854775807 := by decide
    simp only [Lit.wf, e1, e2]; simp; omega
  simp [keyOf, hk, mapKey, hw]
theorem Ents.rgs (hk : P.underlying kt = some (.int .i64)) : ∀ {es : List MapEntry} {kv : List (Int × β)}, Ents (fun k : Int => Value.int .i64 k) encv es kv → (∀ p ∈ kv, I64 p.1) →
    es.map (rg P kt R0) = kv.map (fun p => ((Lit.int .i64 p.1 : Lit), (DataW.lit (.bool true) : DataW Unit))) ∧ (∀ x ∈ es, ∃ y, rd P kt R0 x = some y) ∧ es.map (·.key) = kv.map (fun p => Value.int .i64 p.1)
  | [], [], _, _ => by simp
  | e :: es, p :: kv, h, hr => by
    obtain ⟨⟨h1, h2⟩, h3⟩ := h
    obtain ⟨a, b, c⟩ := Ents.rgs hk h3 fun q hq => hr q (by simp [hq])
    have hrd : rd P kt R0 e = some (.int .i64 p.1, .lit (.bool true)) := by
      unfold rd; rw [h1, keyOf_i hk (hr p (by simp))]; rfl
    refine ⟨?_, ?_, ?_⟩
    · simp only [List.map_cons, a, rg_of hrd]
    · intro x hx
      rcases List.mem_cons.1 hx with rfl | hx
      · exact ⟨_, hrd⟩
      · exact b x hx
    · simp only [List.map_cons, c, h1]
  | [], _ :: _, h, _ => h.elim
  | _ :: _, [], h, _ => h.elim
theorem mapOwned {b : Nat} {kv : List (Int × β)} {w : World} (hk : P.underlying kt = some (.int .i64)) (h : (mapI (fun k : Int => Value.int .i64 k) encv b kv).holds w) (hr : ∀ p ∈ kv, I64 p.1) (hl : kv.length ≤ 1000000) :
    ∃ D0 : DataW Unit, w.ownsMap P kt R0 b kv.length D0 ∧ (intKeys D0).Perm (kv.map (·.1)) ∧ Maps.size D0 = kv.length := by
  obtain ⟨⟨es, clock, hb, hE, hborn, hnd⟩, hn⟩ := h
  obtain ⟨h1, h2, h3⟩ := hE.rgs hk hr
  have hlen := hE.len
  refine ⟨_, ⟨es, clock, hb, ⟨by simp only [maxLen]; simp at hlen; omega, ⟨hborn, hnd, ?_⟩, h2⟩, by simp at hlen; omega, rfl⟩, ?_, ?_⟩
  · rw [h3]
    have : kv.map (fun p => Value.int .i64 p.1) = (kv.map (·.1)).map (Value.int .i64) := by simp
    rw [this]; exact List.Pairwise.map _ (fun a b hab e => hab (by cases e; rfl)) hn
  · have hp := (Go.WideShapes.sorted_perm (es.toList.map (rg P kt R0))).map (fun p => intOf p.1)
    rw [h1] at hp ⊢
    have e : (kv.map (fun p => ((Lit.int .i64 p.1 : Lit), (DataW.lit (.bool true) : DataW Unit)))).map (fun p => intOf p.1) = kv.map (·.1) := by rw [List.map_map]; rfl
    rw [e] at hp; exact hp
  · have hp := (Go.WideShapes.sorted_perm (es.toList.map (rg P kt R0))).length_eq
    simp at hp hlen
    simp [Maps.size, hp, hlen]
end
theorem turn_of_row {w w' : World} {e : TypeId} {v : Value} {ys : List Int} {enc : Int → List Value} (he : ∀ x, enc x = [Value.int .i64 x]) (hrow : w'.ownsRow w.heap.size e 1 v ys.length (ys.map encZ)) (hb : Go.RowKit.Below w.heap.size w w') :
    ∃ (A : Option Addr) (c : Nat), v = .slice A ys.length c ∧ Turn [] [sl A ys.length c e 1 (flat enc ys)] w w' := by
  have hf : flat enc ys = ys.map encZ := by
    clear hrow
    induction ys with
    | nil => rfl
    | cons y ys ih => simp only [flat, List.flatMap_cons, he, List.map_cons] at ih ⊢; rw [ih]; rfl
  rcases hrow.2 with ⟨rfl, hz⟩ | ⟨g, cap, cur, rfl, hbase, hgb, r1, r2, r3, r4⟩
  · have : ys = [] := List.eq_nil_of_length_eq_zero hz
    subst this
    exact ⟨none, 0, rfl, ⟨Fr.of_below hb, by intro it hi; simp at hi; subst hi; exact sl_nil _ _ _, by simp [feet, sl, slFoot], by simp [feet, sl, slFoot]⟩⟩
  · refine ⟨some ⟨g, 0, none⟩, cap, rfl, ⟨Fr.of_below hb, ?_, by simp [feet, sl, slFoot], by simp [feet, sl, slFoot]; exact hbase⟩⟩
    intro it hi; simp only [List.mem_singleton] at hi; subst hi
    exact ⟨by rw [hf]; simp, r1, r2, .inr ⟨g, 0, cur, rfl, hgb, by omega, by rw [hf]; simpa using r4⟩⟩
end Go.Proofs.YtaacfehlcdkdhaaGreatDoor.V
