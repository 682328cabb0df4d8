/- My own verifier: the rules for a batch of operations, in a straight region and in one that draws its order. Generic: nothing of the dump. -/
import Derived.Test.YtaacfehlcdkdhaaGreatDoorVy
namespace Go.Proofs.YtaacfehlcdkdhaaGreatDoor.V
open Go
section
variable {P : Program} {Q : Exit → Act → World → Prop} {n : Nat} {env : Env} {w0 : World} {S : List Nat} {H : List Item} {ops : Array Oper} {o : Oper} {K : Act → World → Prop}

structure Good (P : Program) (n : Nat) (w0 : World) (S : List Nat) (Hc : List Item) (K : Act → World → Prop) (r : Out) : Prop where
  eqs : ∀ p ∈ r.eqs, p.1 = p.2
  c : r.C ⟨P, w0, S, Hc⟩
  go : A n r.env w0 S r.H K
theorem Good.tail {Hc : List Item} {r : Out} {fs : List Fm} {q : Qv} (h : Good P n w0 S Hc K (r.add fs q)) : Good P n w0 S Hc K r ∧ (∀ p, q.eq = some p → p.1 = p.2) ∧ (cur fs = true → ∀ c, q.c = some c → c ⟨P, w0, S, Hc⟩) := by
  obtain ⟨h1, h2, h3⟩ := h
  refine ⟨⟨fun p hp => h1 p ?_, ?_, h3⟩, fun p hp => h1 p ?_, fun hc c hqc => ?_⟩
  · simp only [Out.add]; cases q.eq <;> simp [hp]
  · simp only [Out.add] at h2
    cases hqc : q.c with
    | none => rw [hqc] at h2; exact h2
    | some c => rw [hqc] at h2; cases fs <;> exact h2.2
  · simp only [Out.add, hp]; simp
  · simp only [Out.add, hqc] at h2
    cases fs with
    | nil => exact h2.1
    | cons f fs => exact h2.1 hc
def Hyp (P : Program) (n : Nat) (w0 : World) (S : List Nat) (ops : Array Oper) (ids : List Nat) (Hc : List Item) (K : Act → World → Prop) (hs : List Hn) (ol : List Oper) (base : Env) (fs : List Fm) (H : List Item) (clean : Bool) : Prop :=
  ∀ bs : List Nat, bs.length = nb hs → ∃ r, X P ops n ids hs ol bs base fs H clean = some r ∧ Good P n w0 S Hc K r
theorem nb_cons {h : Hn} {hs : List Hn} (hne : h ≠ .al) : nb (h :: hs) = nb hs := by cases h <;> simp_all [nb]
def zeros (k : Nat) : List Nat := List.replicate k 0
theorem zeros_len {k : Nat} : (zeros k).length = k := by simp [zeros]

theorem X_sound {ids : List Nat} {Hc : List Item} {rest : List Oper} : ∀ (hs : List Hn) (ol : List Oper) (base : Env) (fs : List Fm) (H : List Item) (clean : Bool), (clean = true → Hc = H) →
    Hyp P n w0 S ops ids Hc (wpList P ops Q rest) hs ol base fs H clean → ∀ a w, Ri n base fs a → HS w0 S H w → wpList P ops Q (ol ++ rest) a w := by
  intro hs
  induction hs with
  | nil =>
    intro ol base fs H clean hcl hx a w hr hsp
    obtain ⟨r, hX, hG⟩ := hx [] rfl
    cases ol with
    | cons o ol => simp [X] at hX
    | nil =>
      cases fs with
      | cons f fs => simp [X] at hX
      | nil =>
        simp only [X] at hX
        cases hk : keepE base ids with
        | none => rw [hk] at hX; simp at hX
        | some e =>
          rw [hk] at hX
          simp at hX; subst hX
          exact hG.go a w (keepE_rep hr hk) hsp
  | cons h hs ih =>
    intro ol base fs H clean hcl hx a w hr hsp
    cases ol with
    | nil => obtain ⟨r, hX, hG⟩ := hx (zeros _) zeros_len; cases h <;> simp [X] at hX
    | cons o ol =>
      have quiet : (h.casesOn (motive := fun _ => Prop) True (fun _ => True) True True (fun _ => True) (fun _ => True) True (fun _ => True) False False False (fun _ => False) False True (fun _ => True) True : Prop) → wpList P ops Q (o :: ol ++ rest) a w := by
        intro hh
        have hne : h ≠ .al := by intro e; subst e; exact hh
        have hX : ∀ bs, bs.length = nb hs → ∃ q r, guardOk ops base fs o = true ∧ slotOk n base fs o.dst = true ∧ quietV P H clean (V.full base fs) o h = some q ∧ X P ops n ids hs ol bs (putB base fs o.dst q.v) (putF fs o.dst q.v) H clean = some r ∧ Good P n w0 S Hc (wpList P ops Q rest) (r.add fs q) := by
          intro bs hbs
          obtain ⟨r, hX, hG⟩ := hx bs (by rw [nb_cons hne]; exact hbs)
          cases h <;> simp only [X] at hX <;> first | exact hh.elim | skip
          all_goals
            split at hX
            case h_2 => cases hX
            rename_i hgs
            simp only [Bool.and_eq_true] at hgs
            split at hX
            case h_2 => cases hX
            rename_i q hq
            split at hX
            case h_2 => cases hX
            rename_i r' hr'
            simp at hX; subst hX
            exact ⟨q, r', hgs.1, hgs.2, hq, hr', hG⟩
        obtain ⟨q, r, hg, hsl, hq, _, hG⟩ := hX (zeros _) zeros_len
        refine step_cons (step_quiet hr hsp hg (v := q.v) (fun hc => quietV_sound (Hc := Hc) hq hG.tail.2.1 (hG.tail.2.2 hc) hcl) fun w' hs' => ?_)
        refine ih ol _ _ H clean hcl (fun bs hbs => ?_) _ w' (hr.put hsl) hs'
        obtain ⟨q', r', _, _, hq', hX', hG'⟩ := hX bs hbs
        rw [hq] at hq'
        simp at hq'; subst hq'
        exact ⟨r', hX', hG'.tail.1⟩
      cases h with
      | p | w e | eq | es | ld i | rd vs | ix | cq v | ct | si u | ss => exact quiet trivial
      | o =>
        have hX : ∀ bs, bs.length = nb hs → ∃ d pol E r, look (V.top base fs) d = some (.bool E) ∧ X P ops n ids hs (o :: ol) bs base (⟨d, pol, E, []⟩ :: fs) H clean = some r ∧ Good P n w0 S Hc (wpList P ops Q rest) r ∧ (∃ j, o.guard = some (j, pol) ∧ (ops[j]?).bind (·.dst) = some d) := by
          intro bs hbs
          obtain ⟨r, hX, hG⟩ := hx bs hbs
          simp only [X] at hX
          split at hX
          case h_2 => cases hX
          rename_i j pol hgd
          split at hX
          case h_2 => cases hX
          rename_i d hd
          split at hX
          case h_2 => cases hX
          rename_i E hE
          exact ⟨d, pol, E, r, hE, hX, hG, j, hgd, hd⟩
        obtain ⟨d, pol, E, r, hE, _, _, j, hgd, hd⟩ := hX (zeros _) zeros_len
        refine ih (o :: ol) base (⟨d, pol, E, []⟩ :: fs) H clean hcl (fun bs hbs => ?_) a w (hr.open_ hE) hsp
        obtain ⟨d', pol', E', r', hE', hX', hG', j', hgd', hd'⟩ := hX bs hbs
        rw [hgd] at hgd'; simp at hgd'; obtain ⟨rfl, rfl⟩ := hgd'
        rw [hd] at hd'; simp at hd'; subst hd'
        rw [hE] at hE'; simp at hE'; subst hE'
        exact ⟨r', hX', hG'⟩
      | cl =>
        cases fs with
        | nil => obtain ⟨r, hX, hG⟩ := hx (zeros _) zeros_len; simp [X] at hX
        | cons f fs =>
          have hX : ∀ bs, bs.length = nb hs → ∃ v r, guardOk ops base fs o = true ∧ slotOk n base fs o.dst = true ∧ closeV base f fs o = some v ∧ X P ops n ids hs ol bs (putB base fs o.dst v) (putF fs o.dst v) H clean = some r ∧ Good P n w0 S Hc (wpList P ops Q rest) r := by
            intro bs hbs
            obtain ⟨r, hX, hG⟩ := hx bs hbs
            simp only [X] at hX
            split at hX
            case h_2 => cases hX
            rename_i hgs
            simp only [Bool.and_eq_true] at hgs
            split at hX
            case h_2 => cases hX
            rename_i v hv
            exact ⟨v, r, hgs.1, hgs.2, hv, hX, hG⟩
          obtain ⟨v, r, hg, hsl, hv, _, _⟩ := hX (zeros _) zeros_len
          refine step_cons ?_
          have hk : ∀ w', HS w0 S H w' → wpList P ops Q (ol ++ rest) (a.put o.dst (bif cur fs then v else undef)) w' := fun w' hs' => by
            refine ih ol _ _ H clean hcl (fun bs hbs => ?_) _ w' (hr.1.put hsl) hs'
            obtain ⟨v', r', _, _, hv', hX', hG'⟩ := hX bs hbs
            rw [hv] at hv'; simp at hv'; subst hv'
            exact ⟨r', hX', hG'⟩
          unfold Step
          rw [hr.1.wanted hg]
          cases hc : cur fs with
          | true =>
            rw [if_pos rfl]
            unfold Oper.wp
            rw [closeV_sound hr hc hv w]
            simp only [Oper.upon]
            have := hk w hsp; rw [hc] at this; exact this
          | false =>
            rw [if_neg (by decide)]
            have := hk w hsp; rw [hc] at this; exact this
      | sk =>
        have hX : ∀ bs, bs.length = nb hs → ∃ r, fs = [] ∧ wantedE ops base o = some false ∧ slotOk n base [] o.dst = true ∧ X P ops n ids hs ol bs (putE base o.dst undef) [] H clean = some r ∧ Good P n w0 S Hc (wpList P ops Q rest) r := by
          intro bs hbs
          obtain ⟨r, hX, hG⟩ := hx bs hbs
          simp only [X] at hX
          split at hX
          · rename_i hw hsl; exact ⟨r, rfl, hw, hsl, hX, hG⟩
          · cases hX
        obtain ⟨r, rfl, hw, hsl, _, _⟩ := hX (zeros _) zeros_len
        refine step_cons ?_
        unfold Step
        rw [wanted_of hr hw, if_neg (by decide)]
        refine ih ol _ [] H clean hcl (fun bs hbs => ?_) _ w (Ri.put (fs := []) (v := undef) hr hsl) hsp
        obtain ⟨r', _, _, _, hX', hG'⟩ := hX bs hbs
        exact ⟨r', hX', hG'⟩
      | st i =>
        have hX : ∀ bs, bs.length = nb hs → ∃ t x y b off u cs ty r, fs = [] ∧ guardOk ops base [] o = true ∧ o.op = .store t x y ∧ ev base x = some (.pointer (some ⟨b, off, none⟩)) ∧ ev base y = some u ∧ rowOf H i = some (b, cs, ty) ∧ o.dst = none ∧
            (P.info? t).map (·.size) = some u.cells.toList.length ∧ u.cells.toList.all Value.oneCell' = true ∧ off + u.cells.toList.length ≤ cs.length ∧
            X P ops n ids hs ol bs base [] (H.set i (blk b (cs.take off ++ u.cells.toList ++ cs.drop (off + u.cells.toList.length)) ty)) false = some r ∧ Good P n w0 S Hc (wpList P ops Q rest) r := by
          intro bs hbs
          obtain ⟨r, hX, hG⟩ := hx bs hbs
          simp only [X] at hX
          split at hX
          case h_2 => cases hX
          rename_i t x y hg ho
          split at hX
          case h_2 => cases hX
          rename_i b' off u b cs ty hex hey hrow hdst
          split at hX
          case h_2 => cases hX
          rename_i k hk
          split at hX
          case h_2 => cases hX
          rename_i hb
          simp only [Bool.and_eq_true] at hb
          split at hX
          case h_2 => cases hX
          rename_i r' hr'
          simp at hX; subst hX
          have hbb : b' = b := hG.eqs (b', b) (by simp)
          subst hbb
          have := Nat.eq_of_beq_eq_true hb.1.1
          subst this
          exact ⟨t, x, y, b', off, u, cs, ty, r', rfl, hg, ho, hex, hey, hrow, hdst, hk, hb.1.2, Nat.le_of_ble_eq_true hb.2, hr', ⟨fun p hp => hG.eqs p (by simp [hp]), hG.c, hG.go⟩⟩
        obtain ⟨t, x, y, b, off, u, cs, ty, r, rfl, hg, ho, hex, hey, hrow, hdst, hk, h1, hle, _, _⟩ := hX (zeros _) zeros_len
        obtain ⟨it, hit, hft, hrw⟩ := rowOf_heap hrow
        refine step_cons ?_
        unfold Step
        rw [Ri.wanted (fs := []) hr hg]
        rw [if_pos (show cur [] = true from rfl)]
        have hh : w.heap[b]? = some (.cells cs.toArray ty (0, 0)) := hrw w (hsp.mem hit)
        have hst := run_storeCells_at P b off ty u.cells.toList 0 cs.toArray w hh (by simpa using hle) (fun v hv => List.all_eq_true.1 h1 v hv)
        simp only [Nat.add_zero] at hst
        simp only [Option.map_eq_some_iff] at hk
        obtain ⟨inf, hinf, hsz⟩ := hk
        have hrun : (execOp a.eval o).run P w = .ok .skip (w.setRow b (cs.take off ++ u.cells.toList ++ cs.drop (off + u.cells.toList.length)).toArray) := by
          simp only [execOp, ho, Instr.storeAt, Rep.ev hr hex, Rep.ev hr hey, Instr.sureAddr, storeVar, sizeOf, typeInfo, Sem.run_bind, run_program, Sem.run_pure, Result.andThen_ok, hinf, hsz, Array.length_toList]
          simp [hst]
        unfold Oper.wp
        rw [hrun]
        simp only [Oper.upon, hdst]
        refine ih ol base [] _ false (by simp) (fun bs hbs => ?_) a _ hr (hsp.turn (jt := blk b (cs.take off ++ u.cells.toList ++ cs.drop (off + u.cells.toList.length)) ty) hit (by rw [hft]; exact fr_setRow _ _ _) (setRow_at w b _ _ ty hh) (by simp [blk]) (by rw [hft]; simp [blk]))
        obtain ⟨t', x', y', b', off', u', cs', ty', r', _, _, ho', hex', hey', hrow', _, _, _, _, hX', hG'⟩ := hX bs hbs
        rw [ho] at ho'; simp at ho'; obtain ⟨rfl, rfl, rfl⟩ := ho'
        rw [hex] at hex'; simp at hex'; obtain ⟨rfl, rfl⟩ := hex'
        rw [hey] at hey'; simp at hey'; subst hey'
        rw [hrow] at hrow'; simp at hrow'; obtain ⟨rfl, rfl⟩ := hrow'
        exact ⟨r', hX', hG'⟩
      | al =>
        have hX : ∀ b bs, bs.length = nb hs → ∃ d t u r, fs = [] ∧ guardOk ops base [] o = true ∧ o.dst = some d ∧ d < n ∧ ((∃ x, o.op = .box t x ∧ ev base x = some u) ∨ (o.op = .alloc t ∧ (P.info? t).bind (·.zero) = some u)) ∧
            X P ops n ids hs ol bs ((d, .pointer (some ⟨b, 0, none⟩)) :: base) [] (H ++ [blk b u.cells.toList t]) false = some r ∧ Good P n w0 S Hc (wpList P ops Q rest) r := by
          intro b bs hbs
          obtain ⟨r, hX, hG⟩ := hx (b :: bs) (by simp [nb, hbs])
          simp only [X] at hX
          split at hX
          case h_2 => cases hX
          rename_i d b1 bs1 hg hd hbe
          simp at hbe; obtain ⟨rfl, rfl⟩ := hbe
          split at hX
          · rename_i t x hlt ho
            split at hX
            case h_2 => cases hX
            rename_i u hu
            exact ⟨d, t, u, r, rfl, hg, hd, Nat.le_of_ble_eq_true hlt, .inl ⟨x, ho, hu⟩, hX, hG⟩
          · rename_i t hlt ho
            split at hX
            case h_2 => cases hX
            rename_i u hu
            exact ⟨d, t, u, r, rfl, hg, hd, Nat.le_of_ble_eq_true hlt, .inr ⟨ho, hu⟩, hX, hG⟩
          · cases hX
        obtain ⟨d, t, u, r, rfl, hg, hd, hlt, hou, _, _⟩ := hX w.heap.size (zeros _) zeros_len
        refine step_cons ?_
        unfold Step
        rw [Ri.wanted (fs := []) hr hg]
        rw [if_pos (show cur [] = true from rfl)]
        have hrun : (execOp a.eval o).run P w = .ok (.value (.pointer (some ⟨w.heap.size, 0, none⟩))) (w.alloc (.cells u.cells t)) := by
          rcases hou with ⟨x, ho, hu⟩ | ⟨ho, hu⟩
          · simp [execOp, ho, Rep.ev hr hu, Instr.box, newVar, newRow, newObj, Sem.run, World.alloc_eq]
          · simp only [Option.bind_eq_some_iff] at hu
            obtain ⟨i, hi, hz⟩ := hu
            simp [execOp, ho, Instr.alloc, zeroValue, typeInfo, hi, hz, newVar, newRow, newObj, Sem.run, World.alloc_eq]
        unfold Oper.wp
        rw [hrun]
        simp only [Oper.upon, hd]
        refine ih ol _ [] _ false (by simp) (fun bs hbs => ?_) _ _ (Rep.put hr hlt) (hsp.add (it := blk w.heap.size u.cells.toList t) (Fr.alloc _ _ _) (by have := heap_alloc_new w (.cells u.cells t); simpa [blk] using this) (by simp [blk]) (by simp [blk]))
        obtain ⟨d', t', u', r', _, _, hd', _, hou', hX', hG'⟩ := hX w.heap.size bs hbs
        rw [hd] at hd'; simp at hd'; subst hd'
        have : t = t' ∧ u = u' := by
          rcases hou with ⟨x, ho, hu⟩ | ⟨ho, hu⟩ <;> rcases hou' with ⟨x', ho', hu'⟩ | ⟨ho', hu'⟩ <;> rw [ho] at ho' <;> simp at ho'
          · obtain ⟨rfl, rfl⟩ := ho'; rw [hu] at hu'; simp at hu'; exact ⟨rfl, hu'⟩
          · subst ho'; rw [hu] at hu'; simp at hu'; exact ⟨rfl, hu'⟩
        obtain ⟨rfl, rfl⟩ := this
        exact ⟨r', hX', hG'⟩
end
end Go.Proofs.YtaacfehlcdkdhaaGreatDoor.V
