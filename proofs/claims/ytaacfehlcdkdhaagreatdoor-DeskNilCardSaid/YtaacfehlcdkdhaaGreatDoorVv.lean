/- My own verifier: batches in which what is quiet may be taken at any time: B holds in all of the region's worlds. Generic: nothing of the dump. -/
import Derived.Test.YtaacfehlcdkdhaaGreatDoorVw
namespace Go.Proofs.YtaacfehlcdkdhaaGreatDoor.V
open Go

def U3 (P : Program) (ops : Array Oper) (K : Act → World → Prop) (B : World → Prop) : Nat → List Nat → (World → Prop) → Array Bool → Act → World → Prop
  | 0, _, _, listed, a, w => Region.ready .any ops listed = [] ∧ ∀ w', Fr [] w w' → K a w'
  | f + 1, L, S, listed, a, w => (Region.ready .any ops listed = [] → ∀ w', Fr [] w w' → K a w') ∧
    ∀ i ∈ Region.ready .any ops listed, ∀ w', Fr [] w w' → wpOp P ops Qf i (fun a' w'' =>
      (L.head? = some i ∧ ∃ S' : World → Prop, (∀ w w', S' w → Fr [] w w' → S' w') ∧ (∀ w, S' w → B w) ∧ S' w'' ∧ U3 P ops K B f L.tail S' (listed.setIfInBounds i true) a' w'') ∨ (L.head? ≠ some i ∧ S w'' ∧ U3 P ops K B f L S (listed.setIfInBounds i true) a' w'')) a w'
section
variable {P : Program} {ops : Array Oper} {K : Act → World → Prop} {S B : World → Prop} {Q : Exit → Act → World → Prop}
theorem U3.up : ∀ {f : Nat} {L : List Nat} {S : World → Prop} {listed : Array Bool} {a : Act} {w w' : World}, U3 P ops K B f L S listed a w → Fr [] w w' → U3 P ops K B f L S listed a w'
  | 0, _, _, _, _, _, _, h, hf => ⟨h.1, fun w'' hf' => h.2 w'' (hf.trans hf')⟩
  | _ + 1, _, _, _, _, _, _, h, hf => ⟨fun h0 w'' hf' => h.1 h0 w'' (hf.trans hf'), fun i hi w'' hf' => h.2 i hi w'' (hf.trans hf')⟩
theorem U3.sound : ∀ (f : Nat) (L : List Nat) (S : World → Prop) (listed : Array Bool) (a : Act) (w : World), U3 P ops (Q .normal) B f L S listed a w → wpAny P .any ops Q f listed a w
  | 0, _, _, _, _, _, h => ⟨h.1, h.2 _ (Fr.refl _ _)⟩
  | f + 1, L, S, _, _, w, h => ⟨fun h0 => h.1 h0 _ (Fr.refl _ _), fun i hi => wpOp_of (h.2 i hi w (Fr.refl _ _)) fun a' w' h' => by
      rcases h' with ⟨_, S', _, _, _, h'⟩ | ⟨_, _, h'⟩
      · exact U3.sound f _ _ _ a' w' h'
      · exact U3.sound f _ _ _ a' w' h'⟩
theorem U3.first {i : Nat} {oi : Oper} {v : Value} (hi : ops[i]? = some oi) (hsel : ∀ (j : Nat) (o : Oper) cs b, ops[j]? = some o → o.op ≠ .select cs b) :
    ∀ (f : Nat) (L : List Nat) (S : World → Prop) (listed : Array Bool) (a : Act) (w : World), (∀ w w', S w → Fr [] w w' → S w') → (∀ w, S w → B w) → i ∉ L →
      (∀ j oj, ops[j]? = some oj → j ≠ i → listed.getD j true = false → (∀ e ∈ oj.after, Region.binds .any e = true → e.on ≠ i) → oi.apart ops oj = true) →
      i ∈ Region.ready .any ops listed → Quiet P ops B oi v a → S w → U3 P ops K B f L S (listed.setIfInBounds i true) (a.put oi.dst v) w → U3 P ops K B (f + 1) L S listed a w := by
  intro f
  induction f with
  | zero =>
    intro L S listed a w hcl hSB hL _ hr hy hS H
    refine ⟨fun h => (by rw [h] at hr; cases hr), fun j hj w' hf => ?_⟩
    by_cases hji : j = i
    · subst hji
      refine hy.wpOp hi (hSB _ (hcl _ _ hS hf)) fun w'' hf' => .inr ⟨fun h => hL (List.mem_of_mem_head? h), hcl _ _ (hcl _ _ hS hf) hf', U3.up H (hf.trans hf')⟩
    · have := ready_mono hj hji
      rw [H.1] at this
      cases this
  | succ f ih =>
    intro L S listed a w hcl hSB hL hfree hr hy hS H
    refine ⟨fun h => (by rw [h] at hr; cases hr), fun j hj w' hf => ?_⟩
    have hS' := hcl _ _ hS hf
    by_cases hji : j = i
    · subst hji
      exact hy.wpOp hi (hSB _ (hcl _ _ hS hf)) fun w'' hf' => .inr ⟨fun h => hL (List.mem_of_mem_head? h), hcl _ _ hS' hf', U3.up H (hf.trans hf')⟩
    · have h1 := H.2 j (ready_mono hj hji) w' hf
      obtain ⟨hjun, oj, hoj, hall⟩ := mem_ready.1 hj
      have hnot : ∀ e ∈ oj.after, Region.binds .any e = true → e.on ≠ i := fun e he hb heq => by
        have h1 := hall e he hb
        have h0 := (mem_ready.1 hr).1
        rw [heq] at h1
        rcases Nat.lt_or_ge i listed.size with h' | h'
        · simp [h'] at h0 h1; rw [h0] at h1; cases h1
        · simp [Array.getElem?_eq_none h'] at h1
      have h2 := wpOp_comm hoj (hfree j oj hoj hji hjun hnot) (fun cs b => hsel i oi cs b hi) (fun cs b => hsel j oj cs b hoj) hy h1
      have hfree' : ∀ k ok, ops[k]? = some ok → k ≠ i → (listed.setIfInBounds j true).getD k true = false → (∀ e ∈ ok.after, Region.binds .any e = true → e.on ≠ i) → oi.apart ops ok = true := fun k ok hk hki hun hno => by
        refine hfree k ok hk hki ?_ hno
        by_cases hjk : j = k
        · subst hjk; exact hjun
        · rw [getD_set_ne true hjk] at hun; exact hun
      refine wpOp_of h2 fun a' w'' h3 => ?_
      obtain ⟨hyq, h3⟩ := h3
      rcases h3 with ⟨hh, S', hcl', hSB', hS3, hU3⟩ | ⟨hh, hS3, hU3⟩
      · refine .inl ⟨hh, S', hcl', hSB', hS3, ih L.tail S' (listed.setIfInBounds j true) a' w'' hcl' hSB' (fun h => hL (List.mem_of_mem_tail h)) hfree' (ready_mono hr (Ne.symm hji)) hyq hS3 ?_⟩
        rw [Array.setIfInBounds_comm _ _ hji]
        exact hU3
      · refine .inr ⟨hh, hS3, ih L S (listed.setIfInBounds j true) a' w'' hcl hSB hL hfree' (ready_mono hr (Ne.symm hji)) hyq hS3 ?_⟩
        rw [Array.setIfInBounds_comm _ _ hji]
        exact hU3
end
def drawOk3 (ops : Array Oper) (L : List Nat) : List Hn → List Nat → Array Bool → Bool
  | [], [], _ => true
  | .o :: hs, l, listed => drawOk3 ops L hs l listed
  | h :: hs, i :: l, listed => (takeOk ops listed i && closedB ops listed) && notIn i L && drawOk3 ops L hs l (listed.setIfInBounds i true)
  | _, _, _ => false
section
variable {P : Program} {Q : Exit → Act → World → Prop} {n : Nat} {env : Env} {w0 : World} {S : List Nat} {H HB : List Item} {ops : Array Oper} {K : Act → World → Prop} {l : List Oper} {o : Oper} {f : Nat} {L : List Nat} {listed : Array Bool}
theorem A.draw3 {id : Nat} (L : List Nat) (k : Nat) (HB : List Item) (hk : (Nat.beq l.length k && P.follows .mixedOrders) = true) (h : A n env w0 S H (U3 P l.toArray (Q .normal) (HS w0 S HB) k L (HS w0 S H) (Array.replicate k false))) :
    A n env w0 S H ((Code.region id l.toArray true).wp P Q) := by
  simp only [Bool.and_eq_true] at hk
  obtain rfl := Nat.eq_of_beq_eq_true hk.1
  exact fun a w r s => wp_region_any hk.2 (U3.sound _ _ _ _ _ _ (by simpa using h a _ r (s.kept (Fr.drew _ _))))
theorem take_core3 {i : Nat} {v : Value} {a : Act} {w : World} (hBH : List.Sublist HB H) (hi : ops[i]? = some o) (ht : (takeOk ops listed i && closedB ops listed) = true) (hL : notIn i L = true) (hq : Quiet P ops (HS w0 S HB) o v a) (s : HS w0 S H w)
    (h : U3 P ops K (HS w0 S HB) f L (HS w0 S H) (listed.setIfInBounds i true) (a.put o.dst v) w) : U3 P ops K (HS w0 S HB) (f + 1) L (HS w0 S H) listed a w := by
  simp only [takeOk, Bool.and_eq_true] at ht
  exact U3.first hi (Region.noSelect_spec ht.1.2) f L (HS w0 S H) listed a w (fun w w' hw hf => hw.kept hf) (fun w hw => hw.sub hBH) (notIn_spec hL) (Region.free_spec hi ht.1.1.1) (by simpa using ht.1.1.2) hq s h
theorem X_draw3 {ids : List Nat} {HB : List Item} {Hc : List Item} (hBH : List.Sublist HB H) : ∀ (hs : List Hn) (order : List Nat) (listed : Array Bool) (base : Env) (fs : List Fm) (clean : Bool), calm hs = true → drawOk3 ops L hs order listed = true → (clean = true → Hc = HB) → (opsAt ops order).length = order.length →
    (∃ r, X P ops n ids hs (opsAt ops order) [] base fs HB clean = some r ∧ Good P n w0 S Hc (fun a w => HS w0 S H w → U3 P ops K (HS w0 S HB) f L (HS w0 S H) (markAll listed order) a w) r) →
    ∀ a w, Ri n base fs a → HS w0 S H w → U3 P ops K (HS w0 S HB) (f + order.length) L (HS w0 S H) listed a w := by
  intro hs
  induction hs with
  | nil =>
    intro order listed base fs clean _ hd hcl hlen ⟨r, hX, hG⟩ a w hr hsp
    cases order with
    | cons i order =>
      cases hi : ops[i]? with
      | none => simp [opsAt, hi] at hlen
      | some o => simp [opsAt, hi, X] at hX
    | nil =>
      simp only [opsAt] at hX
      cases fs with
      | cons f fs => simp [X] at hX
      | nil =>
        simp only [X] at hX
        cases hk : keepE base ids with
        | none => rw [hk] at hX; simp at hX
        | some e =>
          rw [hk] at hX
          simp at hX; subst hX
          exact hG.go a w (keepE_rep hr hk) (hsp.sub hBH) hsp
  | cons h hs ih =>
    intro order listed base fs clean hcalm hd hcl hlen ⟨r, hX, hG⟩ a w hr hsp
    cases order with
    | nil => cases h <;> simp [opsAt, X] at hX
    | cons i order =>
      cases hi : ops[i]? with
      | none => simp [opsAt, hi] at hlen
      | some o =>
        have hlen' : (opsAt ops order).length = order.length := by simpa [opsAt, hi] using hlen
        have hd0 := hd
        simp only [opsAt, hi] at hX
        have simpX : h ≠ .o → calm hs = true → (match guardOk ops base fs o && slotOk n base fs o.dst with
            | true => (match quietV P HB clean (V.full base fs) o h with
              | some q => (match X P ops n ids hs (opsAt ops order) [] (putB base fs o.dst q.v) (putF fs o.dst q.v) HB clean with
                | some r => some (r.add fs q)
                | none => none)
              | none => none)
            | false => none) = some r → U3 P ops K (HS w0 S HB) (f + (i :: order).length) L (HS w0 S H) listed a w := by
          intro hno hcalm hX
          have hd : ((takeOk ops listed i && closedB ops listed) && notIn i L && drawOk3 ops L hs order (listed.setIfInBounds i true)) = true := by
            cases h <;> first | exact absurd rfl hno | exact hd
          obtain ⟨hd1, hd⟩ := Bool.and_eq_true_iff.1 hd
          obtain ⟨ht, hw⟩ := Bool.and_eq_true_iff.1 hd1
          split at hX
          case h_2 => cases hX
          rename_i hgs
          simp only [Bool.and_eq_true] at hgs
          split at hX
          case h_2 => cases hX
          rename_i q hq
          split at hX
          case h_2 => cases hX
          rename_i r' hr'
          simp at hX; subst hX
          have hk : U3 P ops K (HS w0 S HB) (f + order.length) L (HS w0 S H) (listed.setIfInBounds i true) (a.put o.dst (bif cur fs then q.v else undef)) w :=
            ih order _ _ _ clean hcalm hd hcl hlen' ⟨r', hr', hG.tail.1⟩ _ w (hr.put hgs.2) hsp
          exact take_core3 hBH hi ht hw (quiet_of hr hgs.1 (fun hc => quietV_sound (Hc := Hc) hq hG.tail.2.1 (hG.tail.2.2 hc) hcl)) hsp hk
        cases h with
        | p | w e | eq | es | ld j | rd vs | ix | cq v | ct | si u | ss => simp only [X] at hX; exact simpX (by simp) (by simpa [calm] using hcalm) hX
        | st j | al => simp [calm] at hcalm
        | o =>
          simp only [X] at hX
          split at hX
          case h_2 => cases hX
          rename_i j pol hgd
          split at hX
          case h_2 => cases hX
          rename_i d hdd
          split at hX
          case h_2 => cases hX
          rename_i E hE
          exact ih (i :: order) listed base _ clean (by simpa [calm] using hcalm) hd0 hcl hlen ⟨r, by simp only [opsAt, hi]; exact hX, hG⟩ a w (hr.open_ hE) hsp
        | cl =>
          obtain ⟨hd1, hd⟩ := Bool.and_eq_true_iff.1 (show ((takeOk ops listed i && closedB ops listed) && notIn i L && drawOk3 ops L hs order (listed.setIfInBounds i true)) = true from hd)
          obtain ⟨ht, hw⟩ := Bool.and_eq_true_iff.1 hd1
          cases fs with
          | nil => simp [X] at hX
          | cons f1 fs =>
            simp only [X] at hX
            split at hX
            case h_2 => cases hX
            rename_i hgs
            simp only [Bool.and_eq_true] at hgs
            split at hX
            case h_2 => cases hX
            rename_i v hv
            have hq : ∀ SS : World → Prop, Quiet P ops SS o (bif cur fs then v else undef) a := fun SS => by
              cases hc : cur fs with
              | true =>
                refine .inl ⟨by rw [hr.1.wanted hgs.1, hc], fun w s => ?_⟩
                rw [closeV_sound hr hc hv w]
                exact ⟨rfl, Fr.refl _ _⟩
              | false => exact .inr ⟨by rw [hr.1.wanted hgs.1, hc], rfl⟩
            have hk : U3 P ops K (HS w0 S HB) (f + order.length) L (HS w0 S H) (listed.setIfInBounds i true) (a.put o.dst (bif cur fs then v else undef)) w :=
              ih order _ _ _ clean (by simpa [calm] using hcalm) hd hcl hlen' ⟨r, hX, hG⟩ _ w (hr.1.put hgs.2) hsp
            exact take_core3 hBH hi ht hw (hq _) hsp hk
        | sk =>
          obtain ⟨hd1, hd⟩ := Bool.and_eq_true_iff.1 (show ((takeOk ops listed i && closedB ops listed) && notIn i L && drawOk3 ops L hs order (listed.setIfInBounds i true)) = true from hd)
          obtain ⟨ht, hw⟩ := Bool.and_eq_true_iff.1 hd1
          simp only [X] at hX
          split at hX
          case h_2 => cases hX
          rename_i hwt hsl
          have hq : ∀ SS : World → Prop, Quiet P ops SS o undef a := fun SS => .inr ⟨wanted_of hr hwt, rfl⟩
          have hk : U3 P ops K (HS w0 S HB) (f + order.length) L (HS w0 S H) (listed.setIfInBounds i true) (a.put o.dst undef) w :=
            ih order _ _ [] clean (by simpa [calm] using hcalm) hd hcl hlen' ⟨r, hX, hG⟩ _ w (Ri.put (fs := []) (v := undef) hr hsl) hsp
          exact take_core3 hBH hi ht hw (hq _) hsp hk
/-- some quiet operations, whatever else is under way -/
theorem A.drawB {f' : Nat} (f : Nat) (hs : List Hn) (order : List Nat) (env' : Env) (l : List Nat) (C : Cx → Prop)
    (hx : (calm hs && drawOk3 ops L hs order listed && Nat.beq (opsAt ops order).length order.length && Nat.beq f' (f + order.length), X P ops n (ids env') hs (opsAt ops order) [] env [] HB true) = (true, some ⟨env', HB, dup l, C⟩))
    (hBH : List.Sublist HB H) (hc : C ⟨P, w0, S, HB⟩) (h : A n env' w0 S H (U3 P ops K (HS w0 S HB) f L (HS w0 S H) (markAll listed order))) : A n env w0 S H (U3 P ops K (HS w0 S HB) f' L (HS w0 S H) listed) := by
  intro a w r s
  simp only [Prod.mk.injEq, Bool.and_eq_true] at hx
  have hf := Nat.eq_of_beq_eq_true hx.1.2
  rw [hf]
  exact X_draw3 (Hc := HB) hBH hs order listed env [] true hx.1.1.1.1 hx.1.1.1.2 (fun _ => rfl) (Nat.eq_of_beq_eq_true hx.1.1.2) ⟨_, hx.2, dup_ok, hc, fun a w r _ s => h a w r s⟩ a w r s
/-- one quiet operation, whatever else is under way -/
theorem A.takeB (i : Nat) (d : Option Nat) (v : Value) (hi : ops[i]? = some o) (ht : ((takeOk ops listed i && closedB ops listed) && notIn i L) = true) (hok : headOk ops n env o d = true) (hBH : List.Sublist HB H) (hq : Qt P n env w0 S HB o v)
    (h : A n (putE env d v) w0 S H (U3 P ops K (HS w0 S HB) f L (HS w0 S H) (listed.setIfInBounds i true))) : A n env w0 S H (U3 P ops K (HS w0 S HB) (f + 1) L (HS w0 S H) listed) := by
  intro a w r s
  obtain ⟨h1, h2, h3, _⟩ := headOk_spec hok
  obtain ⟨ht1, ht2⟩ := Bool.and_eq_true_iff.1 ht
  refine take_core3 hBH hi ht1 ht2 (.inl ⟨wanted_of r h1, fun w' s' => hq a w' r s'⟩) s ?_
  rw [h2]
  exact h _ w (r.putE h3) s
/-- the operation that writes, when it alone may come up -/
theorem A.only3 (i : Nat) (hi : ops[i]? = some o) (hr : Region.ready .any ops listed = [i])
    (h : A n env w0 S H (Step P ops o (fun a w => ∃ S' : World → Prop, (∀ w w', S' w → Fr [] w w' → S' w') ∧ (∀ w, S' w → HS w0 S HB w) ∧ S' w ∧ U3 P ops K (HS w0 S HB) f L S' (listed.setIfInBounds i true) a w))) : A n env w0 S H (U3 P ops K (HS w0 S HB) (f + 1) (i :: L) (HS w0 S H) listed) := by
  intro a w r s
  refine ⟨fun h0 => (by rw [hr] at h0; cases h0), fun j hj w' hf => ?_⟩
  rw [hr, List.mem_singleton] at hj
  subst hj
  have h1 := h a w' r (s.kept hf)
  unfold Step at h1
  unfold wpOp
  simp only [hi]
  split
  · rename_i hw; rw [if_pos hw] at h1; exact .inl (Oper.wp_imp h1 fun _ _ h => .inl ⟨rfl, h⟩)
  · rename_i hw; rw [if_neg hw] at h1; exact .inl ⟨rfl, h1⟩
theorem A.stage3 (hBH : List.Sublist HB H) (h : A n env w0 S H (U3 P ops K (HS w0 S HB) f L (HS w0 S H) listed)) : A n env w0 S H (fun a w => ∃ S' : World → Prop, (∀ w w', S' w → Fr [] w w' → S' w') ∧ (∀ w, S' w → HS w0 S HB w) ∧ S' w ∧ U3 P ops K (HS w0 S HB) f L S' listed a w) := fun a w r s => ⟨HS w0 S H, fun _ _ hw hf => hw.kept hf, fun _ hw => hw.sub hBH, s, h a w r s⟩
theorem A.fin3 {B : World → Prop} (hr : Region.ready .any ops listed = []) (h : A n env w0 S H K) : A n env w0 S H (U3 P ops K B f L (HS w0 S H) listed) := by
  intro a w r s
  cases f with
  | zero => exact ⟨hr, fun w' hf => h a w' r (s.kept hf)⟩
  | succ f => exact ⟨fun _ w' hf => h a w' r (s.kept hf), by rw [hr]; simp⟩
end
end Go.Proofs.YtaacfehlcdkdhaaGreatDoor.V
