/- My own verifier: the same rules inside a round of a range over a function, and behind one (deferred calls under way). Generic: nothing of the dump. -/
import Derived.Test.YtaacfehlcdkdhaaGreatDoorVw
import Derived.RangeFuncFrom
import Derived.RangeFuncLeaves
import Derived.RangeFuncCalls
namespace Go.Proofs.YtaacfehlcdkdhaaGreatDoor.V
open Go

/-- the fence of a round, or of none -/
def FW (ro : Option Nat) : Fence := { Fence.wide with round := ro }
/-- the same ends, with deferred calls ds -/
def QD (ds : List Deferred) (Q : Exit → Act → World → Prop) : Exit → Act → World → Prop := fun e a w => a.defers = [] ∧ Q e { a with defers := ds } w
def plainOp (o : Oper) : Bool := match o.op with | .defer _ => false | _ => true
theorem plainOp_spec {o : Oper} (h : plainOp o = true) : ∀ c, o.op ≠ .defer c := by intro c hc; simp [plainOp, hc] at h
section
variable {P : Program} {ro : Option Nat} {m : Nat} {ops : Array Oper} {Q : Exit → Act → World → Prop} {ds : List Deferred}
theorem callsFW {f : FuncId} {args : Array Value} {w : World} {R : Ending → World → Prop} (h : Calls P f args w R) : CallsIn (FW ro) m P f args w R :=
  (callsIn_wide (n := m)).2 h
theorem rowsFW {row : String} {args : Array Value} {w : World} {R : Value → World → Prop} (h : Rows P row args w R) : RowsIn (FW ro) m P row args w R :=
  fun c cs _ => let ⟨v, w', r, s⟩ := h c cs; ⟨v, w', r, stepsIn_wide.2 s⟩
theorem put_defers (a : Act) (d : Option Nat) (v : Value) : (a.put d v).defers = a.defers := by cases d <;> rfl
theorem put_with (a : Act) (d : Option Nat) (v : Value) : { a.put d v with defers := ds } = Act.put { a with defers := ds } d v := by cases d <;> rfl
theorem no_list (hq : ∀ a w, ¬ Q .outgrown a w) : ∀ (l : List Oper) (a : Act) (w : World), a.defers ≠ [] → ¬ wpList P ops (QD ds Q) l a w
  | [], a, w, hd, h => hd h.1
  | o :: rest, a, w, hd, h => by
    have ih := no_list hq rest
    have hL : ¬ LetsOut (QD ds Q) := fun ⟨a, w, h⟩ => hq _ _ h.2
    unfold wpList at h
    split at h
    · rcases h with h | ⟨_, h⟩
      · unfold Oper.wp Oper.upon at h
        split at h
        · exact ih _ _ (by rw [put_defers]; exact hd) h
        · exact ih _ _ (by rw [put_defers]; exact hd) h
        · exact ih _ _ (by rw [put_defers]; simp) h
        · obtain ⟨e, w', fr, hR, _⟩ := h []
          cases e with
          | returned v => exact ih _ _ (by rw [put_defers]; exact hd) hR
          | panicked ch => exact hd hR.1
          | outgrown => exact hL hR
        · obtain ⟨v, w', hR, _⟩ := h default []
          exact ih _ _ (by rw [put_defers]; exact hd) hR
        · exact hd h.1
        · exact h
      · exact hL h
    · exact ih _ _ (by rw [put_defers]; exact hd) h
theorem list_in (hq : ∀ a w, ¬ Q .outgrown a w) : ∀ (l : List Oper) (a : Act) (w : World), l.all plainOp = true → a.defers = [] → wpList P ops (QD ds Q) l a w → wpListIn (FW ro) m P ops Q l { a with defers := ds } w
  | [], a, w, _, _, h => h.2
  | o :: rest, a, w, hp, hd, h => by
    obtain ⟨hp1, hp2⟩ := Bool.and_eq_true_iff.1 (show (plainOp o && rest.all plainOp) = true from hp)
    have ih := fun a w hd h => list_in hq rest a w hp2 hd h
    have hL : ¬ LetsOut (QD ds Q) := fun ⟨a, w, h⟩ => hq _ _ h.2
    have hm : (FW ro).depth.isSome = true → 1 ≤ m := fun h => by cases h
    unfold wpList at h
    unfold wpListIn
    split at h
    · rename_i hw
      rw [if_pos hw]
      rcases h with h | ⟨_, h⟩
      · refine ⟨fun _ _ => trivial, ?_⟩
        rw [Oper.semAt_eq _ _ _ (plainOp_spec hp1)]
        show Oper.uponIn _ _ _ _ _ _ _ ((execOp a.eval o).run P w)
        unfold Oper.wp Oper.upon at h
        split at h
        · rename_i v w' he; rw [he, Oper.uponIn_value, ← put_with]; exact ih _ _ (by rw [put_defers]; exact hd) h
        · rename_i w' he; rw [he, Oper.uponIn_skip, ← put_with]; exact ih _ _ (by rw [put_defers]; exact hd) h
        · exact absurd h (no_list hq _ _ _ (by rw [put_defers]; simp))
        · rename_i f args w' he
          rw [he, Oper.uponIn_enter]
          refine ⟨hm, callsFW (h.mono fun e w'' hR => ?_)⟩
          cases e with
          | returned v => show wpListIn _ _ _ _ _ _ _ _; rw [← put_with]; exact ih _ _ (by rw [put_defers]; exact hd) hR
          | panicked ch => exact hR.2
          | outgrown => exact absurd hR hL
        · rename_i row args w' he
          rw [he, Oper.uponIn_row]
          exact ⟨hm, rowsFW (h.mono fun v w'' hR => by rw [← put_with]; exact ih _ _ (by rw [put_defers]; exact hd) hR)⟩
        · rename_i v w' he; rw [he, Oper.uponIn_panic]; exact h.2
        · exact h.elim
      · exact absurd h hL
    · rename_i hw
      rw [if_neg hw]
      refine ⟨fun _ _ => trivial, ?_⟩
      rw [← put_with]; exact ih _ _ (by rw [put_defers]; exact hd) h
end
/-- code under a fence, with deferred calls ds -/
def WI (ro : Option Nat) (m : Nat) (P : Program) (ds : List Deferred) (c : Code) (Q : Exit → Act → World → Prop) : Act → World → Prop := fun a w => c.wpIn (FW ro) m P Q { a with defers := ds } w
/-- an end, with deferred calls ds -/
def QI (ds : List Deferred) (Q : Exit → Act → World → Prop) (e : Exit) : Act → World → Prop := fun a w => Q e { a with defers := ds } w
section
variable {P : Program} {ro : Option Nat} {m : Nat} {Q : Exit → Act → World → Prop} {ds : List Deferred} {n : Nat} {env : Env} {w0 : World} {S : List Nat} {H : List Item} {K : Act → World → Prop}
theorem I.region {id : Nat} {l : List Oper} (hp : l.all plainOp = true) (hq : ∀ a w, ¬ Q .outgrown a w) (h : A n env w0 S H (wpList P l.toArray (QD ds Q) l)) : A n env w0 S H (WI ro m P ds (Code.region id l.toArray false) Q) := fun a w r s =>
  wpIn_region_lit (list_in hq l a w hp r.nod (h a w r s))
theorem I.q {e : Exit} (h : A n env w0 S H (QI ds Q e)) : A n env w0 S H (QD ds Q e) := fun a w r s => ⟨r.nod, h a w r s⟩
theorem I.seq {x y : Code} (h : A n env w0 S H (WI ro m P ds x (Exit.then (y.wpIn (FW ro) m P Q) Q))) : A n env w0 S H (WI ro m P ds (Code.seq x y) Q) := fun a w r s => wpIn_seq (h a w r s)
theorem I.tn {y : Code} (h : A n env w0 S H (WI ro m P ds y Q)) : A n env w0 S H (QI ds (Exit.then (y.wpIn (FW ro) m P Q) Q) .normal) := h
theorem I.tr (h : A n env w0 S H (QI ds Q .ret)) : A n env w0 S H (QI ds (Exit.then K Q) .ret) := h
theorem I.te {i : Nat} (h : A n env w0 S H (QI ds Q (.exit i))) : A n env w0 S H (QI ds (Exit.then K Q) (.exit i)) := h
theorem I.bn {id : Nat} (h : A n env w0 S H (QI ds Q .normal)) : A n env w0 S H (QI ds (Exit.inBlock id Q) .normal) := h
theorem I.br {id : Nat} (h : A n env w0 S H (QI ds Q .ret)) : A n env w0 S H (QI ds (Exit.inBlock id Q) .ret) := h
theorem I.bh {id : Nat} (h : A n env w0 S H (QI ds Q .normal)) : A n env w0 S H (QI ds (Exit.inBlock id Q) (.exit id)) := fun a w r s => by
  show Exit.inBlock id Q (.exit id) _ _
  simp only [Exit.inBlock, if_true]; exact h a w r s
theorem I.skip (h : A n env w0 S H (QI ds Q .normal)) : A n env w0 S H (WI ro m P ds Code.skip Q) := fun a w r s => wpIn_skip (h a w r s)
theorem I.exit {i : Nat} (h : A n env w0 S H (QI ds Q (.exit i))) : A n env w0 S H (WI ro m P ds (Code.exit i) Q) := fun a w r s => wpIn_exit (h a w r s)
theorem I.ret (h : A n env w0 S H (QI ds Q .ret)) : A n env w0 S H (WI ro m P ds Code.ret Q) := fun a w r s => wpIn_ret (h a w r s)
theorem I.block {id : Nat} {c : Code} (h : A n env w0 S H (WI ro m P ds c (Exit.inBlock id Q))) : A n env w0 S H (WI ro m P ds (Code.block id c) Q) := fun a w r s => wpIn_block (h a w r s)
theorem I.cond {c : Operand} {x y : Code} {E : Bool} (hc : ev env c = some (.bool E)) (ht : E = true → A n env w0 S H (WI ro m P ds x Q)) (hf : E = false → A n env w0 S H (WI ro m P ds y Q)) : A n env w0 S H (WI ro m P ds (Code.cond c x y) Q) :=
  fun a w r s => wpIn_cond_split (t := E) (r.ev hc) (fun e => ht e a w r s) (fun e => hf e a w r s)
end
/-! ### a range over a function -/
def mkD (D : Nat) : Deferred := { target := .collected D, args := #[] }
/-- the block for the rounds' deferred calls: it has none -/
def dblk (D : Nat) : Item where
  foot := [D]
  holds w := w.heap[D]? = some (.deferred (some []))
  loc w w' h hw := by rw [h D (by simp)]; exact hw
  here w hw c hc := by
    simp at hc; subst hc
    exact (Array.getElem?_eq_some_iff.1 hw).1
/-- cells outside of bs are kept -/
def Kc (bs : List Nat) (W W' : World) : Prop := W.heap.size ≤ W'.heap.size ∧ ∀ k o, W.heap[k]? = some o → o.isCells = true → k ∉ bs → W'.heap[k]? = some o
theorem Kc.trans {bs : List Nat} {A B C : World} (h : Kc bs A B) (k : Kc bs B C) : Kc bs A C := ⟨Nat.le_trans h.1 k.1, fun i o hi ho hb => k.2 i o (h.2 i o hi ho hb) ho hb⟩
theorem Kc.of {bs : List Nat} {A B : World} (h : Fr bs A B) : Kc bs A B := ⟨h.size, fun k o hk _ hb => (h.block k (Array.getElem?_eq_some_iff.1 hk).1 hb).trans hk⟩
def isBlk (it : Item) : Prop := ∃ b cs t, it = blk b cs t
theorem cells_of {H : List Item} (hb : ∀ it ∈ H, isBlk it) {W : World} (hw : ∀ it ∈ H, it.holds W) {b : Nat} (h : b ∈ feet H) : ∃ o, W.heap[b]? = some o ∧ o.isCells = true := by
  simp only [feet, List.mem_flatMap] at h
  obtain ⟨it, hi, hf⟩ := h
  obtain ⟨c, cs, t, rfl⟩ := hb it hi
  have := hw _ hi
  simp [blk] at hf; subst hf
  exact ⟨_, this, rfl⟩
theorem HS.grown {w0 : World} {S : List Nat} {H : List Item} {W W' : World} {row : Option Nat} (h : HS w0 S H W) (hb : ∀ it ∈ H, isBlk it) (hg : W.grownBy W' row) (hr : ∀ r, row = some r → w0.heap.size ≤ r ∧ ∃ o : Obj, W.heap[r]? = some o ∧ o.isCells = false) : HS w0 S H W' := by
  obtain ⟨g1, g2, g3, g4, g5⟩ := hg
  have hs := h.fr.size
  refine ⟨⟨g1.trans h.fr.os, g2.trans h.fr.tape, g3.trans h.fr.output, Nat.le_trans hs g4, fun k hk hS => ?_⟩, fun it hi => ?_, h.nodup, h.own⟩
  · rw [g5 k (by omega) (fun e => by obtain ⟨h1, _⟩ := hr k e.symm; omega)]; exact h.fr.block k hk hS
  · refine it.loc W W' (fun b hbm => ?_) (h.all it hi)
    refine g5 b (it.here W (h.all it hi) b hbm) fun e => ?_
    obtain ⟨_, o, ho, hc⟩ := hr b e.symm
    obtain ⟨o', ho', hc'⟩ := cells_of hb h.all (show b ∈ feet H from List.mem_flatMap.2 ⟨it, hi, hbm⟩)
    rw [ho] at ho'; cases ho'; rw [hc] at hc'; cases hc'
/-- how a round may be left -/
def RP (W : World) (bs : List Nat) (Hn Hr : List Item) (Pn Pr : Prop) : Exit → Act → World → Prop
  | .normal, _, w => HS W bs Hn w ∧ Pn
  | .ret, _, w => HS W bs Hr w ∧ Pr
  | _, _, _ => False
section
variable {P : Program} {m : Nat} {Q : Exit → Act → World → Prop} {n : Nat} {env : Env} {w0 : World} {S : List Nat} {H : List Item}
theorem HS.round {bs : List Nat} {Hs Hn : List Item} {W W' : World} (h : HS w0 S Hs W) (hf : feet Hs = bs) (hf' : feet Hn = bs) (h' : HS W bs Hn W') : HS w0 S Hn W' :=
  ⟨h.fr.trans' h'.fr (fun x hx => h.own x (by rw [hf]; exact hx)), h'.all, h'.nodup, fun b hb => h.own b (by rw [hf, ← hf']; exact hb)⟩
theorem HS.others {bs : List Nat} {Hs Hn : List Item} {W W' : World} (hb : ∀ it ∈ Hs, isBlk it) (h : ∀ it ∈ Hs, it.holds W) (hf : feet Hs = bs) (h' : HS W bs Hn W') : KeepsOthers W W' :=
  ⟨h'.fr.size, fun k o hk hc => by
    refine (h'.fr.block k (Array.getElem?_eq_some_iff.1 hk).1 fun hm => ?_).trans hk
    obtain ⟨o', ho', hc'⟩ := cells_of hb h (hf ▸ hm)
    rw [hk] at ho'; cases ho'; rw [hc] at hc'; cases hc'⟩
theorem HS.mark {Hs : List Item} {W : World} {D : Nat} (h : HS w0 S Hs W) (hb : ∀ it ∈ Hs, isBlk it) (hD : w0.heap.size ≤ D) (hd : W.heap[D]? = some (.deferred (some []))) : HS w0 S (Hs ++ [dblk D]) W := by
  have hn : D ∉ feet Hs := fun hm => by
    obtain ⟨o, ho, hc⟩ := cells_of hb h.all hm
    rw [hd] at ho; cases ho; cases hc
  refine ⟨h.fr, fun it hi => ?_, ?_, fun b hm => ?_⟩
  · rcases List.mem_append.1 hi with hi | hi
    · exact h.all it hi
    · rw [List.mem_singleton] at hi; subst hi; exact hd
  · simp only [feet, List.flatMap_append, List.flatMap_cons, List.flatMap_nil, List.append_nil]
    refine List.nodup_append.2 ⟨h.nodup, by simp [dblk], fun a ha b hb' => ?_⟩
    simp [dblk] at hb'; subst hb'; intro e; subst e; exact hn ha
  · simp only [feet, List.flatMap_append, List.flatMap_cons, List.flatMap_nil, List.append_nil] at hm
    rcases List.mem_append.1 hm with hm | hm
    · exact h.own b hm
    · simp [dblk] at hm; subst hm; exact .inr hD
/-- range over a function: the blocks bs alone are turned by the rounds -/
theorem I.range {α : Type} {g : Operand} {ps : Array Tmp} {assign body : Code} {gf : Nat} {lb : Array Value} (hm : 1 ≤ m) (hg : ev env g = some (.func (.func gf) #[] lb)) (eg : ∀ args w, (callFunc gf args).run P w = .ok (.enter gf args) w)
    (encs : α → Array Value) (hps : ∀ x, (encs x).size = ps.size) (N : Nat) (Sd Sp Ps Pr : List α → Prop) (bs : List Nat) (Hs Hr : List α → List Item)
    (hbs : ∀ l, feet (Hs l) = bs) (hbr : ∀ l, feet (Hr l) = bs) (hcs : ∀ l, ∀ it ∈ Hs l, isBlk it) (hcr : ∀ l, ∀ it ∈ Hr l, isBlk it)
    (hseq : ∀ w, HS w0 S H w → SeqStopsK (FW none) (m - 1) P gf lb encs (Kc bs) Sd Sp N w) (h0 : List.Sublist (Hs []) H) (hP0 : Ps []) (env1 : α → Env) (asg : Act → α → Act) (hasg : ∀ a x, Rep n env a → Rep n (env1 x) (asg a x))
    (hassign : ∀ (l : Nat) (a : Act) (x : α) (W : World) (K : Act → World → Prop), Rep n env a → K (asg a x) W →
      assign.wpIn (FW (some l)) (m - 1 - 1) P (Exit.then K (fun _ _ _ => False)) { tmps := (ps.zip (encs x)).foldl (fun t (p, v) => t.setIfInBounds p v) a.tmps, defers := [] } W)
    (hbody : ∀ (l : Nat) (pre : List α) (x : α) (W : World), pre.length < N → Ps pre → A n (env1 x) W bs (Hs pre) (WI (some l) (m - 1 - 1) P [] body (RP W bs (Hs (pre ++ [x])) (Hr (pre ++ [x])) (Ps (pre ++ [x])) (Pr (pre ++ [x])))))
    (hdone : ∀ D xs, Sd xs → Ps xs → A n env w0 S (Hs xs ++ [dblk D]) (QI [mkD D] Q .normal))
    (hstop : ∀ D pre, Sp pre → Pr pre → A n env w0 S (Hr pre ++ [dblk D]) (QI [mkD D] Q .ret)) :
    A n env w0 S H (WI none m P [] (Code.rangeFunc g ps assign body) Q) := by
  intro a w r s
  have ha : ({ a with defers := [] } : Act) = a := by obtain ⟨t, d⟩ := a; have := r.nod; simp at this; subst this; rfl
  show (Code.rangeFunc g ps assign body).wpIn (FW none) m P Q { a with defers := [] } w
  rw [ha]
  have hw := s.fr.size
  refine wpIn_rangeFunc_ownF (F := FW none) (α := α) rfl hm (r.ev hg) trivial eg (hseq w s) (fun h k => h.trans k)
    (fun W l o o' hl ho hc _ => ⟨by simp, fun k o1 hk hc1 _ => by
      refine (World.putObj_heap_other (fun e => ?_)).trans hk
      subst e; rw [hk] at ho; cases ho; rw [hc] at hc1; cases hc1⟩) (Go.RowKit.Below.refl _ w) hps
    (fun pre W => HS w0 S (Hs pre) W ∧ Ps pre) (fun c pre W => c = .ret ∧ HS w0 S (Hr pre) W ∧ Pr pre)
    (fun pre W W' row h hgr hr => ⟨h.1.grown (hcs pre) hgr fun q e => ⟨Nat.le_trans hw (hr q e).1, (hr q e).2⟩, h.2⟩)
    (fun c pre W W' row h hgr hr => ⟨h.1, h.2.1.grown (hcr pre) hgr fun q e => ⟨Nat.le_trans hw (hr q e).1, (hr q e).2⟩, h.2.2⟩)
    ⟨s.sub h0, hP0⟩ (asg a) (fun l x W K hk => hassign l a x W K r hk) ?_ ?_ ?_
  · intro l pre x W hI hl
    have hr1 := hasg a x r
    have h1 := hbody l pre x W hl hI.2 (asg a x) W hr1 (by rw [← hbs pre]; exact HS.start W (Hs pre) hI.1.all hI.1.nodup)
    have hb : ({ asg a x with defers := [] } : Act) = asg a x := by
      have := hr1.nod; cases hx : asg a x with
      | mk t d => rw [hx] at this; simp at this; subst this; rfl
    have h2 : body.wpIn (FW (some l)) (m - 1 - 1) P (RP W bs (Hs (pre ++ [x])) (Hr (pre ++ [x])) (Ps (pre ++ [x])) (Pr (pre ++ [x]))) { asg a x with defers := [] } W := h1
    rw [hb] at h2
    refine wpIn_mono (F := (FW none).inRound l) h2 fun e a' W' hq => ?_
    cases e with
    | normal => exact ⟨HS.others (hcs pre) hI.1.all (hbs pre) hq.1, Kc.of hq.1.fr, hI.1.round (hbs pre) (hbs _) hq.1, hq.2⟩
    | ret => exact ⟨HS.others (hcs pre) hI.1.all (hbs pre) hq.1, rfl, hI.1.round (hbs pre) (hbr _) hq.1, hq.2⟩
    | exit i => exact hq.elim
    | goto i => exact hq.elim
    | panic ch => exact hq.elim
    | outgrown => exact hq.elim
  · intro D xs W hD hS hI hd
    have := hdone D xs hS hI.2 a W r (hI.1.mark (hcs xs) (by omega) hd)
    unfold QI at this; rw [r.nod]; exact this
  · rintro D c pre W hD hS ⟨rfl, hI, hP⟩ hd
    have := hstop D pre hS hP a W r (hI.mark (hcr pre) (by omega) hd)
    refine wpIn_ret ?_
    unfold QI at this; rw [r.nod]; exact this
end
section
variable {P : Program} {m : Nat} {n : Nat} {env : Env} {w : World} {H : List Item} {fn : Func} {v : Value}
theorem I.calls {f : FuncId} {c : Code} {args : List Value} {R : Ending → World → Prop} (m : Nat) (env : Env) (S : List Nat) (H : List Item)
    (hf : P.funcs[f]? = some fn) (hb : fn.body = some c) (hn : (Nat.ble args.length fn.ntmps) = true) (he : ∀ i v, look env i = some v → args[i]? = some v) (hs : HS w S H w)
    (h : A fn.ntmps env w S H (WI none m P [] c (bodyPostM (FW none) m P fn R))) : Calls P f args.toArray w R := by
  refine (callsIn_wide (n := m)).1 (callsIn_of_wp_marks (F := FW none) hf hb trivial (h { tmps := args.toArray ++ Array.replicate (fn.ntmps - args.toArray.size) undef, defers := [] } w ⟨?_, rfl, fun i v hv => ?_⟩ hs))
  · have := Nat.le_of_ble_eq_true hn
    simp; omega
  · have hi := he i v hv
    have hlt : i < args.length := (List.getElem?_eq_some_iff.1 hi).1
    simp only [Array.getD_eq_getD_getElem?]
    rw [Array.getElem?_append_left (by simpa using hlt)]
    simp [hi]
theorem I.callsB {f : FuncId} {c : Code} {args : List Value} {R : Ending → World → Prop} (env : Env) (S : List Nat) (H : List Item)
    (hf : P.funcs[f]? = some fn) (hb : fn.body = some c) (hn : (Nat.ble args.length fn.ntmps) = true) (he : ∀ i v, look env i = some v → args[i]? = some v) (hs : HS w S H w)
    (h : A fn.ntmps env w S H (WI none m P [] c (bodyPost P fn R))) : CallsIn (FW none) m P f args.toArray w R := by
  refine callsIn_of_wp (F := FW none) hf hb trivial (h { tmps := args.toArray ++ Array.replicate (fn.ntmps - args.toArray.size) undef, defers := [] } w ⟨?_, rfl, fun i v hv => ?_⟩ hs)
  · have := Nat.le_of_ble_eq_true hn
    simp; omega
  · have hi := he i v hv
    have hlt : i < args.length := (List.getElem?_eq_some_iff.1 hi).1
    simp only [Array.getD_eq_getD_getElem?]
    rw [Array.getElem?_append_left (by simpa using hlt)]
    simp [hi]
theorem I.end {e : Exit} {w0 : World} {S : List Nat} {R : Ending → World → Prop} (he : e = .normal ∨ e = .ret) (vs : List Value) (hv : ∀ a w1, Rep n env a → HS w0 S H w1 → RVs P w1 a fn.results.toList vs) (h : ∀ w1, HS w0 S H w1 → R (.returned (outOf vs)) w1) :
    A n env w0 S H (QI [] (bodyPost P fn R) e) := by
  intro a w1 r s
  rcases he with rfl | rfl
  · exact ⟨rfl, _, show (results fn a.tmps).run P w1 = _ from run_results (hv a w1 r s), h w1 s⟩
  · exact ⟨rfl, _, show (results fn a.tmps).run P w1 = _ from run_results (hv a w1 r s), h w1 s⟩
theorem I.rpn {W : World} {bs : List Nat} {H' Hn Hr : List Item} {Pn Pr : Prop} (hH : H' = Hn) (hp : Pn) : A n env W bs H' (QI [] (RP W bs Hn Hr Pn Pr) .normal) := fun a w r s => ⟨hH ▸ s, hp⟩
theorem I.rpr {W : World} {bs : List Nat} {H' Hn Hr : List Item} {Pn Pr : Prop} (hH : H' = Hr) (hp : Pr) : A n env W bs H' (QI [] (RP W bs Hn Hr Pn Pr) .ret) := fun a w r s => ⟨hH ▸ s, hp⟩
theorem I.postQ0 (vs : List Value) (hv : ∀ a w1, Rep n env a → HS w [] H w1 → RVs P w1 a fn.results.toList vs) (hx : outOf vs = v) :
    A n env w [] H (QI [] (bodyPostM (FW none) m P fn (fun e w' => e = .returned v ∧ Fr [] w w')) .ret) := by
  intro a w1 r s
  simp only [QI, bodyPostM, LeavesInM, LeavesIn]
  exact ⟨_, run_results (hv a w1 r s), by rw [hx], s.fr⟩
theorem I.postQ {D : Nat} (vs : List Value) (hb : ∀ it ∈ H, isBlk it) (hv : ∀ a w1, Rep n env a → HS w [] H w1 → RVs P w1 a fn.results.toList vs) (hx : outOf vs = v) :
    A n env w [] (H ++ [dblk D]) (QI [mkD D] (bodyPostM (FW none) m P fn (fun e w' => e = .returned v ∧ Fr [] w w')) .ret) := by
  intro a w1 r s
  have hd : w1.heap[D]? = some (.deferred (some [])) := s.all (dblk D) (by simp)
  have hD : w.heap.size ≤ D := (s.own D (by simp [feet, dblk])).resolve_left (by simp)
  have s1 : HS w [] H w1 := s.sub (List.sublist_append_left _ _)
  have s2 := s1.grown hb (grownBy_putObj' w1 D (.deferred none)) (fun q e => by cases e; exact ⟨hD, _, hd, rfl⟩)
  refine ⟨by simp, .inl ⟨D, _, rfl, run_takeDeferred hd, ?_⟩⟩
  show LeavesIn (FW none) m P fn a.tmps _ [] .returning _
  exact ⟨_, run_results (hv a _ r s2), by rw [hx], s2.fr⟩
end
end Go.Proofs.YtaacfehlcdkdhaaGreatDoor.V
