/- My own verifier's rule for a region that draws its order: whatever order comes up. Generic: nothing of the dump. -/
import Derived.Test.YtaacfehlcdkdhaaGreatDoorVb
namespace Go.Proofs.YtaacfehlcdkdhaaGreatDoor.V
open Go

/-- whatever order comes up from here on, from this world and from every one that has grown out of it; behind each operation S -/
def U (P : Program) (ops : Array Oper) (K : Act → World → Prop) (S : World → Prop) : Nat → Array Bool → Act → World → Prop
  | 0, listed, a, w => Region.ready .any ops listed = [] ∧ ∀ w', Fr [] w w' → K a w'
  | f + 1, listed, a, w => (Region.ready .any ops listed = [] → ∀ w', Fr [] w w' → K a w') ∧
    ∀ i ∈ Region.ready .any ops listed, ∀ w', Fr [] w w' → wpOp P ops Qf i (fun a' w'' => S w'' ∧ U P ops K S f (listed.setIfInBounds i true) a' w'') a w'

section
variable {P : Program} {ops : Array Oper} {K : Act → World → Prop} {S : World → Prop} {Q : Exit → Act → World → Prop}
theorem U.up : ∀ {f : Nat} {listed : Array Bool} {a : Act} {w w' : World}, U P ops K S f listed a w → Fr [] w w' → U P ops K S f listed a w'
  | 0, _, _, _, _, h, hf => ⟨h.1, fun w'' hf' => h.2 w'' (hf.trans hf')⟩
  | _ + 1, _, _, _, _, h, hf => ⟨fun h0 w'' hf' => h.1 h0 w'' (hf.trans hf'), fun i hi w'' hf' => h.2 i hi w'' (hf.trans hf')⟩
theorem wpOp_of {i : Nat} {a : Act} {w : World} {K K' : Act → World → Prop} (h : wpOp P ops Qf i K a w) (hk : ∀ a w, K a w → K' a w) : wpOp P ops Q i K' a w := by
  unfold wpOp at *
  split
  · rename_i ho; simp only [ho] at h; exact hk _ _ h
  · rename_i o ho
    simp only [ho] at h
    split
    · rename_i hw
      simp only [hw, if_true] at h
      rcases h with h | ⟨_, _, _, hf⟩
      · exact .inl (Oper.wp_imp h hk)
      · exact hf.elim
    · rename_i hw; simp only [hw] at h; exact hk _ _ h
theorem U.sound : ∀ (f : Nat) (listed : Array Bool) (a : Act) (w : World), U P ops (Q .normal) S f listed a w → wpAny P .any ops Q f listed a w
  | 0, _, _, _, h => ⟨h.1, h.2 _ (Fr.refl _ _)⟩
  | f + 1, _, _, w, h => ⟨fun h0 => h.1 h0 _ (Fr.refl _ _), fun i hi => wpOp_of (h.2 i hi w (Fr.refl _ _)) fun a' w' h' => U.sound f _ a' w' h'.2⟩

/-- operation o yields v in state a, in every world that meets S -/
def Quiet (P : Program) (ops : Array Oper) (S : World → Prop) (o : Oper) (v : Value) (a : Act) : Prop :=
  (Region.wanted o (yielded ops a.tmps) = true ∧ ∀ w, S w → quietUpon P w v ((execOp a.eval o).run P w)) ∨ (Region.wanted o (yielded ops a.tmps) = false ∧ v = undef)
theorem Quiet.of_same {o : Oper} {v : Value} {a a' : Act} (hy : Quiet P ops S o v a) (he : execOp a'.eval o = execOp a.eval o) (hw : Region.wanted o (yielded ops a'.tmps) = Region.wanted o (yielded ops a.tmps)) : Quiet P ops S o v a' := by
  unfold Quiet at *
  rw [he, hw]
  exact hy
theorem Quiet.wpOp {i : Nat} {o : Oper} {v : Value} {a : Act} {w : World} (hi : ops[i]? = some o) (hy : Quiet P ops S o v a) (hS : S w) (h : ∀ w', Fr [] w w' → K (a.put o.dst v) w') : wpOp P ops Qf i K a w := by
  unfold Go.wpOp
  simp only [hi]
  rcases hy with ⟨hw, hv⟩ | ⟨hw, rfl⟩
  · simp only [hw, if_true]; exact .inl (wp_of_quiet (hv w hS) h)
  · simp only [hw, Bool.false_eq_true, if_false]; exact h w (Fr.refl _ _)
theorem wpOp_comm {j : Nat} {oi oj : Oper} {v : Value} (hj : ops[j]? = some oj) (hap : oi.apart ops oj = true) (hsi : ∀ cs b, oi.op ≠ .select cs b) (hsj : ∀ cs b, oj.op ≠ .select cs b)
    {a : Act} {w : World} (hy : Quiet P ops S oi v a) (h : wpOp P ops Qf j K (a.put oi.dst v) w) : wpOp P ops Qf j (fun a' w' => Quiet P ops S oi v a' ∧ K (a'.put oi.dst v) w') a w := by
  obtain ⟨h1, h2, h3⟩ := Oper.apart_spec hap
  have keep : ∀ (a : Act), Quiet P ops S oi v a → ∀ u, Quiet P ops S oi v (a.put oj.dst u) := fun a hy u => hy.of_same (execOp_put oi hsi a oj.dst u h3) (wanted_put oi a oj.dst u h3)
  have keepD : ∀ d, Quiet P ops S oi v { a with defers := d :: a.defers } := fun d => hy.of_same rfl rfl
  unfold wpOp at *
  simp only [hj] at *
  rw [wanted_put oj a oi.dst v h1] at h
  split
  · rename_i hw
    simp only [hw, if_true] at h
    rcases h with h | ⟨_, _, _, hf⟩
    case inr => exact hf.elim
    refine .inl ?_
    unfold Oper.wp at *
    rw [execOp_put oj hsj a oi.dst v h1] at h
    generalize (execOp a.eval oj).run P w = r at *
    cases r with
    | ok nx w' =>
      cases nx <;> simp only [Oper.upon] at h ⊢
      case value u => exact ⟨keep a hy u, by rw [← Act.put_comm a v u h2]; exact h⟩
      case skip => exact ⟨keep a hy _, by rw [← Act.put_comm a v undef h2]; exact h⟩
      case defer d =>
        refine ⟨keep _ (keepD d) _, ?_⟩
        rw [← Act.put_comm _ v undef h2, ← Act.put_defers]
        exact h
      case enter f args =>
        refine Calls.mono h fun e w'' he => ?_
        cases e with
        | returned u => exact ⟨keep a hy u, by rw [← Act.put_comm a v u h2]; exact he⟩
        | panicked c => exact he.elim
        | outgrown => obtain ⟨_, _, hf⟩ := he; exact hf.elim
      case row row args => exact Rows.mono h fun u w'' he => ⟨keep a hy u, by rw [← Act.put_comm a v u h2]; exact he⟩
    | halt x w' => cases x <;> simp only [Oper.upon] at h ⊢ <;> exact h.elim
  · rename_i hw
    simp only [hw] at h
    exact ⟨keep a hy _, by rw [← Act.put_comm a v undef h2]; exact h⟩
theorem U.first {i : Nat} {oi : Oper} {v : Value} (hi : ops[i]? = some oi) (hsel : ∀ (j : Nat) (o : Oper) cs b, ops[j]? = some o → o.op ≠ .select cs b) (hcl : ∀ w w', S w → Fr [] w w' → S w') :
    ∀ (f : Nat) (listed : Array Bool) (a : Act) (w : World),
      (∀ j oj, ops[j]? = some oj → j ≠ i → listed.getD j true = false → (∀ e ∈ oj.after, Region.binds .any e = true → e.on ≠ i) → oi.apart ops oj = true) →
      i ∈ Region.ready .any ops listed → Quiet P ops S oi v a → S w → U P ops K S f (listed.setIfInBounds i true) (a.put oi.dst v) w → U P ops K S (f + 1) listed a w := by
  intro f
  induction f with
  | zero =>
    intro listed a w _ hr hy hS H
    refine ⟨fun h => (by rw [h] at hr; cases hr), fun j hj w' hf => ?_⟩
    by_cases hji : j = i
    · subst hji; exact hy.wpOp hi (hcl _ _ hS hf) fun w'' hf' => ⟨hcl _ _ (hcl _ _ hS hf) hf', H.up (hf.trans hf')⟩
    · have := ready_mono hj hji
      rw [H.1] at this
      cases this
  | succ f ih =>
    intro listed a w hfree hr hy hS H
    refine ⟨fun h => (by rw [h] at hr; cases hr), fun j hj w' hf => ?_⟩
    have hS' := hcl _ _ hS hf
    by_cases hji : j = i
    · subst hji; exact hy.wpOp hi hS' fun w'' hf' => ⟨hcl _ _ hS' hf', H.up (hf.trans hf')⟩
    · have h1 := H.2 j (ready_mono hj hji) w' hf
      obtain ⟨hjun, oj, hoj, hall⟩ := mem_ready.1 hj
      have hnot : ∀ e ∈ oj.after, Region.binds .any e = true → e.on ≠ i := fun e he hb heq => by
        have h1 := hall e he hb
        have h0 := (mem_ready.1 hr).1
        rw [heq] at h1
        rcases Nat.lt_or_ge i listed.size with h' | h'
        · simp [h'] at h0 h1; rw [h0] at h1; cases h1
        · simp [Array.getElem?_eq_none h'] at h1
      have h2 := wpOp_comm hoj (hfree j oj hoj hji hjun hnot) (fun cs b => hsel i oi cs b hi) (fun cs b => hsel j oj cs b hoj) hy h1
      have hfree' : ∀ k ok, ops[k]? = some ok → k ≠ i → (listed.setIfInBounds j true).getD k true = false → (∀ e ∈ ok.after, Region.binds .any e = true → e.on ≠ i) → oi.apart ops ok = true := fun k ok hk hki hun hno => by
        refine hfree k ok hk hki ?_ hno
        by_cases hjk : j = k
        · subst hjk; exact hjun
        · rw [getD_set_ne true hjk] at hun; exact hun
      refine wpOp_of h2 fun a' w'' h3 => ⟨h3.2.1, ih (listed.setIfInBounds j true) a' w'' hfree' (ready_mono hr (Ne.symm hji)) h3.1 h3.2.1 ?_⟩
      rw [Array.setIfInBounds_comm _ _ hji]
      exact h3.2.2
end

def takeOk (ops : Array Oper) (listed : Array Bool) (i : Nat) : Bool := Region.free .any ops listed i && (Region.ready .any ops listed).contains i && Region.noSelect ops
section
variable {P : Program} {Q : Exit → Act → World → Prop} {n : Nat} {env : Env} {w0 : World} {S : List Nat} {H Hs : List Item} {l : List Oper} {ops : Array Oper} {K : Act → World → Prop} {f : Nat} {listed : Array Bool}
/-- the beginning; Hs: what holds all along -/
theorem A.draw {id : Nat} (Hs : List Item) (hm : P.follows .mixedOrders = true) (h : A n env w0 S H (U P l.toArray (Q .normal) (HS w0 S Hs) l.length (Array.replicate l.length false))) :
    A n env w0 S H ((Code.region id l.toArray true).wp P Q) := fun a w r s =>
  wp_region_any hm (U.sound _ _ _ _ (by simpa using h a _ r (s.kept (Fr.drew _ _))))
/-- number i is taken first -/
theorem A.take (i : Nat) (d : Option Nat) (v : Value) {o : Oper} (hi : ops[i]? = some o) (ht : takeOk ops listed i = true) (hok : headOk ops n env o d = true) (hs : List.Sublist Hs H) (hq : Qt P n env w0 S Hs o v)
    (h : A n (putE env d v) w0 S H (U P ops K (HS w0 S Hs) f (listed.setIfInBounds i true))) : A n env w0 S H (U P ops K (HS w0 S Hs) (f + 1) listed) := by
  intro a w r s
  obtain ⟨h1, h2, h3, _⟩ := headOk_spec hok
  simp only [takeOk, Bool.and_eq_true] at ht
  refine U.first hi (Region.noSelect_spec ht.2) (fun w w' hw hf => hw.kept hf) f listed a w (Region.free_spec hi ht.1.1) (by simpa using ht.1.2) (.inl ⟨wanted_of r h1, fun w' s' => hq a w' r s'⟩) (s.sub hs) ?_
  rw [h2]
  exact h _ w (r.putE h3) s
/-- number i is passed over first -/
theorem A.takeJ (i : Nat) (d : Option Nat) {o : Oper} (hi : ops[i]? = some o) (ht : takeOk ops listed i = true) (hw : wantedE ops env o = some false) (hd : o.dst = d) (hn : ∀ x, d = some x → Nat.blt x n = true) (hs : List.Sublist Hs H)
    (h : A n (putE env d undef) w0 S H (U P ops K (HS w0 S Hs) f (listed.setIfInBounds i true))) : A n env w0 S H (U P ops K (HS w0 S Hs) (f + 1) listed) := by
  intro a w r s
  simp only [takeOk, Bool.and_eq_true] at ht
  refine U.first (v := undef) hi (Region.noSelect_spec ht.2) (fun w w' hw hf => hw.kept hf) f listed a w (Region.free_spec hi ht.1.1) (by simpa using ht.1.2) (.inr ⟨wanted_of r hw, rfl⟩) (s.sub hs) ?_
  rw [hd]
  exact h _ w (r.putE fun x hx => Nat.le_of_ble_eq_true (hn x hx)) s
/-- number i alone may come up -/
theorem A.only (i : Nat) {o : Oper} (hi : ops[i]? = some o) (hr : Region.ready .any ops listed = [i])
    (h : A n env w0 S H (Step P ops o (fun a w => HS w0 S Hs w ∧ U P ops K (HS w0 S Hs) f (listed.setIfInBounds i true) a w))) : A n env w0 S H (U P ops K (HS w0 S Hs) (f + 1) listed) := by
  intro a w r s
  refine ⟨fun h0 => (by rw [hr] at h0; cases h0), fun j hj w' hf => ?_⟩
  rw [hr, List.mem_singleton] at hj
  subst hj
  have h1 := h a w' r (s.kept hf)
  unfold Step at h1
  unfold wpOp
  simp only [hi]
  split
  · rename_i hw; rw [if_pos hw] at h1; exact .inl h1
  · rename_i hw; rw [if_neg hw] at h1; exact h1
theorem A.and (hs : List.Sublist Hs H) (h : A n env w0 S H K) : A n env w0 S H (fun a w => HS w0 S Hs w ∧ K a w) := fun a w r s => ⟨s.sub hs, h a w r s⟩
theorem A.fin (hr : Region.ready .any ops listed = []) (h : A n env w0 S H K) : A n env w0 S H (U P ops K (HS w0 S Hs) f listed) := by
  intro a w r s
  cases f with
  | zero => exact ⟨hr, fun w' hf => h a w' r (s.kept hf)⟩
  | succ f => exact ⟨fun _ w' hf => h a w' r (s.kept hf), by rw [hr]; simp⟩
/-- what is behind is given a name: the region's ways meet there -/
theorem A.cutR {c : Code} {σ : Type} (envf : σ → Env) (Hf : σ → List Item) (φ : σ → Prop) (h : A n env w0 S H (c.wp P (fun e a w => match e with | .normal => ∃ z, φ z ∧ Rep n (envf z) a ∧ HS w0 S (Hf z) w | _ => Q e a w)))
    (h' : ∀ z, φ z → A n (envf z) w0 S (Hf z) (Q .normal)) : A n env w0 S H (c.wp P Q) :=
  fun a w r s => wp_mono (h a w r s) fun e a w hq => by
    cases e <;> first | exact hq | skip
    obtain ⟨z, hz, r, s⟩ := hq
    exact h' z hz a w r s
end
end Go.Proofs.YtaacfehlcdkdhaaGreatDoor.V
